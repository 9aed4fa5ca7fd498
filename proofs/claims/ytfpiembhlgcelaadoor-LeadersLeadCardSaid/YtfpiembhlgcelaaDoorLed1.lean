/- Part 1: words and walks under the law 'LeadersLead'. -/
import Derived.Test.YtfpiembhlgcelaaDoorRows
import Derived.WalkKit
import Derived.ProofKit
import Derived.ClosedOfChecked
set_option linter.unusedVariables false
set_option linter.unusedSimpArgs false
/- Closed facts on the program that every row of this seat asks for: each a theorem of its own. -/
namespace Go.Proofs.YtfpiembhlgcelaaDoor
set_option maxRecDepth 1000000
def signs : List Nat := [104, 97, 114, 110, 101, 115, 115, 32, 102, 51, 50, 98, 99, 50, 51, 48, 102, 56, 50, 98, 50, 57, 49, 57, 50, 53, 102, 57, 50, 101, 48, 49, 53, 102, 51, 99, 53, 97, 55, 53, 50, 56, 48, 102, 52, 101, 102, 56, 98, 51, 99, 51, 57, 97, 101, 99, 50, 49, 102, 51, 99, 102, 49, 53, 49, 49, 51, 48, 99, 99, 99, 53, 32, 99, 117, 116, 32, 97, 116, 32, 115, 99, 117, 108, 108, 105, 110, 103, 47, 115, 99, 117, 108, 108, 105, 110, 103, 107, 101, 101, 112, 46, 69, 110, 116, 114, 105, 101, 115, 66, 97, 99, 107, 32, 115, 99, 117, 108, 108, 105, 110, 103, 47, 115, 99, 117, 108, 108, 105, 110, 103, 107, 101, 101, 112, 46, 83, 101, 99, 116, 111, 114, 115, 66, 97, 99, 107, 32, 115, 99, 117, 108, 108, 105, 110, 103, 47, 115, 99, 117, 108, 108, 105, 110, 103, 107, 101, 101, 112, 46, 80, 108, 97, 121, 115, 79, 110, 99, 101, 32, 115, 99, 117, 108, 108, 105, 110, 103, 47, 115, 99, 117, 108, 108, 105, 110, 103, 107, 101, 101, 112, 46, 83, 108, 111, 116, 115, 83, 112, 111, 105, 108, 116, 32, 115, 99, 117, 108, 108, 105, 110, 103, 47, 115, 99, 117, 108, 108, 105, 110, 103, 107, 101, 101, 112, 46, 83, 108, 111, 116, 115, 84, 111, 114, 110, 32, 115, 99, 117, 108, 108, 105, 110, 103, 47, 115, 99, 117, 108, 108, 105, 110, 103, 107, 101, 101, 112, 46, 76, 101, 97, 100, 101, 114, 115, 76, 101, 97, 100, 32, 115, 99, 117, 108, 108, 105, 110, 103, 47, 115, 99, 117, 108, 108, 105, 110, 103, 107, 101, 101, 112, 46, 86, 105, 101, 119, 115, 66, 101, 103, 105, 110, 32, 115, 99, 117, 108, 108, 105, 110, 103, 47, 115, 99, 117, 108, 108, 105, 110, 103, 107, 101, 101, 112, 46, 78, 101, 116, 115, 71, 111, 111, 100, 32, 115, 99, 117, 108, 108, 105, 110, 103, 47, 115, 99, 117, 108, 108, 105, 110, 103, 116, 111, 112, 46, 84, 111, 112, 65, 103, 114, 101, 101, 32, 115, 99, 117, 108, 108, 105, 110, 103, 47, 115, 99, 117, 108, 108, 105, 110, 103, 116, 111, 112, 46, 84, 111, 112, 83, 116, 97, 121, 115, 32, 115, 99, 117, 108, 108, 105, 110, 103, 47, 115, 99, 117, 108, 108, 105, 110, 103, 116, 111, 112, 46, 84, 111, 112, 84, 111, 108, 100, 32, 115, 99, 117, 108, 108, 105, 110, 103, 47, 115, 99, 117, 108, 108, 105, 110, 103, 116, 111, 112, 46, 84, 111, 112, 79, 114, 100, 101, 114, 32, 115, 99, 117, 108, 108, 105, 110, 103, 47, 115, 99, 117, 108, 108, 105, 110, 103, 116, 111, 112, 46, 84, 111, 112, 76, 101, 97, 100, 101, 114, 115, 32, 115, 99, 117, 108, 108, 105, 110, 103, 47, 115, 99, 117, 108, 108, 105, 110, 103, 116, 111, 112, 46, 84, 111, 112, 67, 114, 97, 115, 104, 32, 115, 99, 117, 108, 108, 105, 110, 103, 47, 115, 99, 117, 108, 108, 105, 110, 103, 116, 111, 112, 46, 84, 111, 112, 84, 119, 105, 99, 101]
theorem order_eq : Tryd.prog.initOrder = String.ofList (signs.map Char.ofNat) := by kernel_rfl
theorem order_list : Tryd.prog.initOrder.toList = signs.map Char.ofNat := by rw [order_eq]; exact String.toList_ofList
def words : List (List Nat) := [[99, 117, 116], [97, 116], [115, 99, 117, 108, 108, 105, 110, 103, 47, 115, 99, 117, 108, 108, 105, 110, 103, 107, 101, 101, 112, 46, 69, 110, 116, 114, 105, 101, 115, 66, 97, 99, 107], [115, 99, 117, 108, 108, 105, 110, 103, 47, 115, 99, 117, 108, 108, 105, 110, 103, 107, 101, 101, 112, 46, 83, 101, 99, 116, 111, 114, 115, 66, 97, 99, 107], [115, 99, 117, 108, 108, 105, 110, 103, 47, 115, 99, 117, 108, 108, 105, 110, 103, 107, 101, 101, 112, 46, 80, 108, 97, 121, 115, 79, 110, 99, 101], [115, 99, 117, 108, 108, 105, 110, 103, 47, 115, 99, 117, 108, 108, 105, 110, 103, 107, 101, 101, 112, 46, 83, 108, 111, 116, 115, 83, 112, 111, 105, 108, 116], [115, 99, 117, 108, 108, 105, 110, 103, 47, 115, 99, 117, 108, 108, 105, 110, 103, 107, 101, 101, 112, 46, 83, 108, 111, 116, 115, 84, 111, 114, 110], [115, 99, 117, 108, 108, 105, 110, 103, 47, 115, 99, 117, 108, 108, 105, 110, 103, 107, 101, 101, 112, 46, 76, 101, 97, 100, 101, 114, 115, 76, 101, 97, 100], [115, 99, 117, 108, 108, 105, 110, 103, 47, 115, 99, 117, 108, 108, 105, 110, 103, 107, 101, 101, 112, 46, 86, 105, 101, 119, 115, 66, 101, 103, 105, 110], [115, 99, 117, 108, 108, 105, 110, 103, 47, 115, 99, 117, 108, 108, 105, 110, 103, 107, 101, 101, 112, 46, 78, 101, 116, 115, 71, 111, 111, 100], [115, 99, 117, 108, 108, 105, 110, 103, 47, 115, 99, 117, 108, 108, 105, 110, 103, 116, 111, 112, 46, 84, 111, 112, 65, 103, 114, 101, 101], [115, 99, 117, 108, 108, 105, 110, 103, 47, 115, 99, 117, 108, 108, 105, 110, 103, 116, 111, 112, 46, 84, 111, 112, 83, 116, 97, 121, 115], [115, 99, 117, 108, 108, 105, 110, 103, 47, 115, 99, 117, 108, 108, 105, 110, 103, 116, 111, 112, 46, 84, 111, 112, 84, 111, 108, 100], [115, 99, 117, 108, 108, 105, 110, 103, 47, 115, 99, 117, 108, 108, 105, 110, 103, 116, 111, 112, 46, 84, 111, 112, 79, 114, 100, 101, 114], [115, 99, 117, 108, 108, 105, 110, 103, 47, 115, 99, 117, 108, 108, 105, 110, 103, 116, 111, 112, 46, 84, 111, 112, 76, 101, 97, 100, 101, 114, 115], [115, 99, 117, 108, 108, 105, 110, 103, 47, 115, 99, 117, 108, 108, 105, 110, 103, 116, 111, 112, 46, 84, 111, 112, 67, 114, 97, 115, 104], [115, 99, 117, 108, 108, 105, 110, 103, 47, 115, 99, 117, 108, 108, 105, 110, 103, 116, 111, 112, 46, 84, 111, 112, 84, 119, 105, 99, 101]]
theorem words_eq : behindMainWord (wordsSigns Tryd.prog.initOrder.toList) = words.map (·.map Char.ofNat) := by
  rw [order_list]
  kernel_rfl
def makeAt (P : Program) (W : List (List Char)) : Option Make := match W with
  | c :: rest => if c == "gc".toList || c == "spec".toList then some .whole else if c == "cut".toList || (c == "finals".toList && rest.head? == some "cut".toList) then some .cut else if c == "carried".toList then some .carried else if P.headLifts.isEmpty then none else some (.lifted P.headLifts)
  | [] => none
def mayAt (P : Program) (W : List (List Char)) : Bool := match W with
  | c :: rest =>
    ((c == "gc".toList || c == "spec".toList) && (rest.isEmpty || rest.head? == some "stop".toList)) ||
    (c == "carried".toList && rest.take 2 == ["gc".toList, "cut".toList] && !P.laysLater && !P.bearsReflect) ||
    ((stripLifts liftWords (c :: rest)).2.head? == some "cut".toList &&
      ((stripLifts liftWords (c :: rest)).1.contains "finals" || !P.laysLater) && ((stripLifts liftWords (c :: rest)).1.contains "reflectrows" || !P.bearsReflect) &&
      ((stripLifts liftWords (c :: rest)).1.contains "reflectrows" || !(stripLifts liftWords (c :: rest)).1.contains "leanrows") &&
      P.doorFits (stripLifts liftWords (c :: rest)).1)
  | [] => false
def liftsAt (ws : List (List Char)) : Bool :=
  (ws.head? == some "carried".toList && ws.take 3 != ["carried".toList, "gc".toList, "cut".toList]) || (if (stripLifts liftWords ws).2.head? == some "cut".toList then (stripLifts liftWords ws).1 else []).contains "finals"
theorem make_at {P : Program} {W : List (List Char)} (h : behindMainWord (wordsSigns P.initOrder.toList) = W) : P.make = makeAt P W := by subst h; rfl
theorem may_at {P : Program} {W : List (List Char)} (h : behindMainWord (wordsSigns P.initOrder.toList) = W) : P.mayEnter = mayAt P W := by subst h; rfl
theorem lifts_at {P : Program} {W : List (List Char)} (h : behindMainWord (wordsSigns P.initOrder.toList) = W) : P.liftsFinal = liftsAt W := by subst h; rfl
theorem f_mayEnter : Tryd.prog.mayEnter = true := (may_at words_eq).trans (by kernel_rfl)
theorem f_make : Tryd.prog.make = some .cut := (make_at words_eq).trans (by kernel_rfl)
theorem f_lifts : Tryd.prog.liftsFinal = false := (lifts_at words_eq).trans (by kernel_rfl)
theorem f_laid : laidOutB Tryd.prog = true := by kernel_rfl
theorem f_maps : mapsRowed Tryd.prog = true := by kernel_rfl
theorem f_keys : Tryd.prog.plainKeys = true := by kernel_rfl
theorem f_heard : Tryd.prog.stopsHeard = true := by kernel_rfl
theorem f_stops : Tryd.prog.stops = [] := by kernel_rfl
theorem f_knobs : Tryd.prog.stopKnobs = [] := by kernel_rfl
/-- The closed facts of a row, out of those of the program and what is left of them. -/
theorem facts_of {f : FuncId} {fn : Func} {s : ChangeSpec} {c : OpenClaim} (hm : c.make = .cut) (hl : c.lifted = false) (hp : c.plainKeys = true) (hst : c.stops = []) (hk : c.knobs = []) (hsh : c.shortTexts = none)
    (h1 : (c.wf (OpenSpec.ofChange s) && (fn.params.all (Tryd.prog.readableRec ·) && namedTie Tryd.prog c.named s.vars)) = true)
    (h2 : (c.inPlace == Tryd.prog.inPlace f) = true) (h3 : (c.unfollowed == Tryd.prog.unfollowed f) = true) (h4 : (c.recurses == Tryd.prog.recurses f) = true) (h5 : (c.named == Tryd.prog.varsNamed f) = true)
    (h6 : ((c.maps == (fn.params.toList ++ s.plain.varTypes Tryd.prog).any (Tryd.prog.mapsRec ·)) && (c.ifaces == (fn.params.toList ++ s.plain.varTypes Tryd.prog).any (Tryd.prog.ifacesRec ·)) && (c.mapsOut == Tryd.prog.mapsAmong fn.resultTypes.toList) &&
      (c.loops == (fn.params.toList ++ s.plain.varTypes Tryd.prog).any (Tryd.prog.loopsFrom ·)) && (c.wideKeys == (fn.params.toList ++ s.plain.varTypes Tryd.prog ++ fn.resultTypes.toList).any (Tryd.prog.wideKeysFrom ·)) &&
      s.vars.all (Tryd.prog.varReadable ·) && fn.resultTypes.all (fun t => Tryd.prog.readableRec t && decide (t < Tryd.prog.types.size)) && (c.ifacesOut == fn.resultTypes.toList.any (Tryd.prog.ifacesRec ·)) && (c.loopsOut == fn.resultTypes.toList.any (Tryd.prog.loopsFrom ·))) = true)
    (h7 : ((c.kinds == (if c.domain.isEmpty then [] else fn.params.toList.map fun t => match Tryd.prog.underlying t with | some (.int k) => some k | _ => none)) && (c.pinned == c.pinnedBy) &&
      ((c.veiled == (fn.params.toList ++ s.plain.varTypes Tryd.prog ++ fn.resultTypes.toList).any (Tryd.prog.veiledRec ·)) && c.veiledFits Tryd.prog fn.params.toList (fn.params.toList ++ s.plain.varTypes Tryd.prog ++ fn.resultTypes.toList))) = true) :
    joinedFacts Tryd.prog f fn s c = true := by
  simp only [Bool.and_eq_true] at h1 h6 h7
  obtain ⟨a1, a2, a3⟩ := h1
  obtain ⟨⟨⟨⟨⟨⟨⟨⟨b1, b2⟩, b3⟩, b4⟩, b5⟩, b6⟩, b7⟩, b8⟩, b9⟩ := h6
  obtain ⟨⟨c1, c2⟩, c3, c4⟩ := h7
  unfold joinedFacts
  simp only [Bool.and_eq_true]
  refine ⟨⟨⟨⟨⟨⟨⟨⟨⟨⟨⟨⟨⟨⟨⟨⟨⟨⟨⟨⟨⟨⟨⟨⟨⟨⟨⟨⟨⟨⟨⟨a1, f_laid⟩, f_maps⟩, a2⟩, a3⟩, ?_⟩, ?_⟩, ?_⟩, ?_⟩, h2⟩, h3⟩, h4⟩, h5⟩, b1⟩, b2⟩, b3⟩, b4⟩, b5⟩, b6⟩, b7⟩, b8⟩, b9⟩, ?_⟩, ?_⟩, f_heard⟩, f_mayEnter⟩, ?_⟩, ?_⟩, c1⟩, c2⟩, c3⟩, c4⟩
  · rw [hst]; rfl
  · rw [f_stops]; rfl
  · rw [hk]; rfl
  · rw [f_knobs]; rfl
  · rw [hp, f_keys]; rfl
  · rw [hsh]; rfl
  · rw [hl, f_lifts]; rfl
  · rw [f_make, hm]; exact beq_self_eq_true _
end Go.Proofs.YtfpiembhlgcelaaDoor
namespace Scu

abbrev Str := ByteArray

structure Op where
  kind : Int
  at_ : Int
  snap : Int
  data : Str
deriving DecidableEq

structure Reply where
  code : Int
  n : Int
  data : Str
deriving DecidableEq

structure Volume where
  now : List Str
  snaps : List (List Str)
deriving DecidableEq

structure Request where
  client : Int
  num : Int
  op : Op
deriving DecidableEq

structure Last where
  num : Int
  reply : Reply
deriving DecidableEq

structure State where
  volume : Volume
  lasts : List Last
deriving DecidableEq

structure Kept where
  view : Int
  normal : Int
  calm : Bool
  log : List Str
  commit : Int
deriving DecidableEq

structure Replica where
  me : Int
  kept : Kept
  have_ : List Int
  wants : List Bool
  gives : List Kept
  given : List Bool
deriving DecidableEq

structure Message where
  kind : Int
  from_ : Int
  to : Int
  view : Int
  normal : Int
  commit : Int
  n : Int
  log : List Str
deriving DecidableEq

structure Customer where
  id : Int
  next : Int
  wait : Request
deriving DecidableEq

structure Act where
  kind : Int
  c : Int
  r : Int
  k : Int
  n : Int
  op : Op
deriving DecidableEq

structure Told where
  request : Request
  reply : Reply
deriving DecidableEq

structure Outcome where
  replicas : List Replica
  slots : List (List Str)
  flying : List Message
  clients : List Customer
  told : List Told
  codes : List Int
deriving DecidableEq

def str0 : Str := ByteArray.empty
def op0 : Op := ⟨0, 0, 0, str0⟩
def reply0 : Reply := ⟨0, 0, str0⟩
def vol0 : Volume := ⟨[], []⟩
def req0 : Request := ⟨0, 0, op0⟩
def last0 : Last := ⟨0, reply0⟩
def state0 : State := ⟨vol0, []⟩
def kept0 : Kept := ⟨0, 0, false, [], 0⟩
def replica0 : Replica := ⟨0, kept0, [], [], [], []⟩
def msg0 : Message := ⟨0, 0, 0, 0, 0, 0, 0, []⟩

/- layer 1 -/
def b8 (n : Int) : UInt8 := UInt8.ofNat (n % 256).toNat
def numBytes (n : Int) : Str := ⟨#[b8 (n / 16777216), b8 (n / 65536), b8 (n / 256), b8 n]⟩
def number (n : Int) : Str × Int := if n < 0 ∨ 1073741824 < n then (str0, 2) else (numBytes n, 0)
def textBytes (s : Str) : Str := ⟨#[b8 s.size]⟩ ++ s
def text (s : Str) : Str × Int := if 255 < s.size then (str0, 1) else (textBytes s, 0)
def byteAt (s : Str) (i : Nat) : Int := ((s.data.toList.getD i 0).toNat : Int)
def num4 (s : Str) : Int := byteAt s 0 * 16777216 + byteAt s 1 * 65536 + byteAt s 2 * 256 + byteAt s 3
def dropS (s : Str) (k : Nat) : Str := s.extract k s.size
def readNumber (s : Str) : Int × Str × Int :=
  if s.size < 4 then (0, str0, 5)
  else if 1073741824 < num4 s then (0, str0, 4)
  else (num4 s, dropS s 4, 0)
def readText (s : Str) : Str × Str × Int :=
  if s.size = 0 then (str0, str0, 5)
  else if (s.size : Int) - 1 < byteAt s 0 then (str0, str0, 5)
  else (s.extract 1 (1 + byteAt s 0).toNat, dropS s (1 + byteAt s 0).toNat, 0)
def sealStep (p : Int × Int) (b : UInt8) : Int × Int :=
  let x := (p.1 + b.toNat) % 65521
  (x, (p.2 + x) % 65521)
def sealXY (l : List UInt8) : Int × Int := l.foldl sealStep (1, 0)
def sealS (s : Str) : Str :=
  let p := sealXY s.data.toList
  ⟨#[b8 (p.2 / 256), b8 p.2, b8 (p.1 / 256), b8 p.1]⟩

/- volume -/
def volNew : Volume := ⟨List.replicate 6 str0, []⟩
def sectorsOk (l : List Str) : Bool := l.length == 6 && l.all fun s => decide (s.size ≤ 8)
def volOk (v : Volume) : Bool := sectorsOk v.now && decide (v.snaps.length ≤ 3) && v.snaps.all sectorsOk
def volFault (v : Volume) : Int := if volOk v then 0 else 8
def opFault (o : Op) : Int :=
  if o.kind < 1 ∨ 4 < o.kind then 3
  else if o.at_ < 0 ∨ 6 ≤ o.at_ ∨ o.snap < 0 ∨ 3 < o.snap then 2
  else if (o.kind ≠ 3 ∧ o.snap ≠ 0) ∨ (o.kind = 4 ∧ o.at_ ≠ 0) ∨ (o.kind ≠ 1 ∧ o.data.size ≠ 0) then 4
  else if 8 < o.data.size then 1 else 0
def doIt (v : Volume) (o : Op) : Volume × Reply :=
  if o.kind = 1 ∨ o.kind = 2 then (⟨v.now.set o.at_.toNat o.data, v.snaps⟩, reply0)
  else if o.kind = 4 then
    if v.snaps.length = 3 then (v, { reply0 with code := 7 }) else (⟨v.now, v.snaps ++ [v.now]⟩, { reply0 with n := v.snaps.length + 1 })
  else if o.snap = 0 then (v, { reply0 with data := v.now.getD o.at_.toNat str0 })
  else if (v.snaps.length : Int) < o.snap then (v, { reply0 with code := 6 })
  else (v, { reply0 with data := (v.snaps.getD (o.snap - 1).toNat []).getD o.at_.toNat str0 })
def volDo (v : Volume) (o : Op) : Volume × Reply × Int :=
  if volFault v ≠ 0 then (vol0, reply0, volFault v)
  else if opFault o ≠ 0 then (vol0, reply0, opFault o)
  else ((doIt v o).1, (doIt v o).2, 0)

/- machine -/
def reqFault (r : Request) : Int := if r.client < 1 ∨ 4 < r.client ∨ r.num < 1 ∨ 1048576 < r.num then 2 else opFault r.op
def reqBytes (r : Request) : Str := ⟨#[b8 r.client, b8 r.op.kind, b8 r.op.at_, b8 r.op.snap]⟩ ++ numBytes r.num ++ textBytes r.op.data
def encode (r : Request) : Str × Int := if reqFault r ≠ 0 then (str0, reqFault r) else (reqBytes r, 0)
def decode (s : Str) : Request × Int :=
  if 40 < s.size then (req0, 1)
  else if s.size < 4 then (req0, 5)
  else
    let a := readNumber (dropS s 4)
    if a.2.2 ≠ 0 then (req0, a.2.2) else
    let b := readText a.2.1
    if b.2.2 ≠ 0 then (req0, b.2.2) else
    if b.2.1 ≠ str0 then (req0, 4) else
    let r : Request := ⟨byteAt s 0, a.1, ⟨byteAt s 1, byteAt s 2, byteAt s 3, b.1⟩⟩
    if reqFault r ≠ 0 then (req0, reqFault r) else (r, 0)
def stateNew : State := ⟨volNew, List.replicate 4 last0⟩
def lastsOk (l : List Last) : Bool := l.length == 4 && l.all fun x => decide (0 ≤ x.num) && decide (x.num ≤ 1048576)
def stateFault (s : State) : Int := if lastsOk s.lasts then volFault s.volume else 8
def applyIt (s : State) (r : Request) : State :=
  if r.num ≤ (s.lasts.getD (r.client - 1).toNat last0).num then s
  else ⟨(doIt s.volume r.op).1, s.lasts.set (r.client - 1).toNat ⟨r.num, (doIt s.volume r.op).2⟩⟩
def apply (s : State) (e : Str) : State × Int :=
  if stateFault s ≠ 0 then (state0, stateFault s)
  else if (decode e).2 ≠ 0 then (state0, (decode e).2)
  else (applyIt s (decode e).1, 0)
def playFrom (s : State) : List Str → State × Int
  | [] => (s, 0)
  | e :: l => if (apply s e).2 ≠ 0 then (state0, (apply s e).2) else playFrom (apply s e).1 l
def play (l : List Str) : State × Int := playFrom stateNew l

/- stage -/
def logFault : List Str → Int
  | [] => 0
  | e :: l => if (decode e).2 ≠ 0 then (decode e).2 else logFault l
def keptFault (k : Kept) : Int :=
  if k.view < 0 ∨ 1048576 < k.view ∨ k.normal < 0 ∨ k.view < k.normal ∨ (k.calm = true ∧ k.normal ≠ k.view) then 2
  else if 60 < k.log.length then 1
  else if k.commit < 0 ∨ (k.log.length : Int) < k.commit then 2
  else logFault k.log
def catS : List Str → Str
  | [] => str0
  | s :: l => s ++ catS l
def keptBody (k : Kept) (gen : Int) : Str :=
  numBytes gen ++ numBytes k.view ++ numBytes k.normal ++ numBytes (if k.calm then 1 else 0) ++ numBytes k.commit ++ numBytes k.log.length ++ catS (k.log.map textBytes)
def keptBytes (k : Kept) (gen : Int) : Str := sealS (keptBody k gen) ++ keptBody k gen
def stageEncode (k : Kept) (gen : Int) : Str × Int :=
  if keptFault k ≠ 0 then (str0, keptFault k)
  else if gen < 0 ∨ 1073741824 < gen then (str0, 2)
  else (keptBytes k gen, 0)
def readNumbers : Nat → Str → List Int × Str × Int
  | 0, s => ([], s, 0)
  | n + 1, s =>
    let a := readNumber s
    if a.2.2 ≠ 0 then ([], str0, a.2.2) else
    let b := readNumbers n a.2.1
    if b.2.2 ≠ 0 then ([], str0, b.2.2) else (a.1 :: b.1, b.2.1, 0)
def readTexts : Nat → Str → List Str × Str × Int
  | 0, s => ([], s, 0)
  | n + 1, s =>
    let a := readText s
    if a.2.2 ≠ 0 then ([], str0, a.2.2) else
    let b := readTexts n a.2.1
    if b.2.2 ≠ 0 then ([], str0, b.2.2) else (a.1 :: b.1, b.2.1, 0)
def stageDecode (s : Str) : Kept × Int × Int :=
  if 4000 < s.size then (kept0, 0, 1)
  else if s.size < 4 then (kept0, 0, 5)
  else if sealS (dropS s 4) ≠ s.extract 0 4 then (kept0, 0, 11)
  else
    let a := readNumbers 6 (dropS s 4)
    if a.2.2 ≠ 0 then (kept0, 0, a.2.2) else
    let l := a.1
    if 1 < l.getD 3 0 ∨ 60 < l.getD 5 0 then (kept0, 0, 4) else
    let b := readTexts (l.getD 5 0).toNat a.2.1
    if b.2.2 ≠ 0 then (kept0, 0, b.2.2) else
    if b.2.1 ≠ str0 then (kept0, 0, 4) else
    let k : Kept := ⟨l.getD 1 0, l.getD 2 0, l.getD 3 0 == 1, b.1, l.getD 4 0⟩
    if keptFault k ≠ 0 then (kept0, 0, keptFault k) else (k, l.getD 0 0, 0)
def keptNew : Kept := { kept0 with calm := true }
def stageNew : List Str := [keptBytes keptNew 0, str0]
def load (l : List Str) : Kept × Int × Int × Int :=
  if l.length ≠ 2 then (kept0, 0, 0, 4) else
  let a := stageDecode (l.getD 0 str0)
  let b := stageDecode (l.getD 1 str0)
  if a.2.2 ≠ 0 ∧ b.2.2 ≠ 0 then (kept0, 0, 0, 13)
  else if a.2.2 ≠ 0 ∨ (b.2.2 = 0 ∧ a.2.1 < b.2.1) then (b.1, b.2.1, 1, 0)
  else (a.1, a.2.1, 0, 0)
def upTo (s : Str) (n : Int) : Str := if 0 ≤ n ∧ n < s.size then s.extract 0 n.toNat else s
def store (l : List Str) (k : Kept) (upto : Int) : List Str × Int :=
  let a := load l
  if a.2.2.2 ≠ 0 then ([], a.2.2.2)
  else if a.2.1 = 1073741824 then ([], 7)
  else if keptFault k ≠ 0 then ([], keptFault k)
  else if upto < -1 then ([], 2)
  else (l.set (1 - a.2.2.1).toNat (upTo (keptBytes k (a.2.1 + 1)) upto), 0)

/- replica -/
def repNew (me : Int) (k : Kept) : Replica × Int :=
  if me < 0 ∨ 3 ≤ me then (replica0, 2)
  else if keptFault k ≠ 0 then (replica0, keptFault k)
  else (⟨me, k, [0, 0, 0], [false, false, false], [kept0, kept0, kept0], [false, false, false]⟩, 0)
def repFault (r : Replica) : Int :=
  if r.me < 0 ∨ 3 ≤ r.me then 2
  else if r.have_.length ≠ 3 ∨ r.wants.length ≠ 3 ∨ r.gives.length ≠ 3 ∨ r.given.length ≠ 3 then 8
  else if r.have_.any (fun h => decide (h < 0) || decide ((r.kept.log.length : Int) < h)) || r.gives.any (fun g => decide (keptFault g ≠ 0)) then 8
  else keptFault r.kept
def leader (view : Int) : Int := view % 3
def leads (r : Replica) : Bool := r.kept.calm && decide (leader r.kept.view = r.me)
def msgFault (m : Message) : Int :=
  if m.kind < 1 ∨ 4 < m.kind then 3
  else if m.from_ < 0 ∨ 3 ≤ m.from_ ∨ m.to < 0 ∨ 3 ≤ m.to ∨ m.from_ = m.to ∨ m.view < 0 ∨ 1048576 < m.view ∨ m.n < 0 ∨ 60 < m.n then 2
  else if (m.kind ≠ 4 ∧ m.normal ≠ 0) ∨ (m.kind ≠ 2 ∧ m.n ≠ 0) ∨ ((m.kind = 2 ∨ m.kind = 3) ∧ (m.commit ≠ 0 ∨ m.log ≠ [])) then 4
  else if (m.kind = 1 ∧ m.from_ ≠ leader m.view) ∨ ((m.kind = 2 ∨ m.kind = 4) ∧ m.to ≠ leader m.view) then 4
  else keptFault ⟨m.view, m.normal, false, m.log, m.commit⟩
def toAll (me view : Int) (m : Message) : List Message :=
  ([0, 1, 2].filter fun i => decide (i ≠ me)).map fun i => { m with from_ := me, to := i, view := view }
def fresh (r : Replica) : Replica :=
  { r with have_ := [0, 0, 0], wants := [false, false, false], gives := [kept0, kept0, kept0], given := [false, false, false] }
def leadOn (r : Replica) : List Message := toAll r.me r.kept.view { msg0 with kind := 1, commit := r.kept.commit, log := r.kept.log }
def want (r : Replica) (view : Int) : Replica × List Message :=
  let r1 := fresh { r with kept := { r.kept with view := view, calm := false } }
  let r2 := { r1 with wants := r1.wants.set r.me.toNat true }
  (r2, toAll r.me view { msg0 with kind := 3 })
def own (k : Kept) : Kept := { k with calm := false }
def better (a b : Kept) : Bool := decide (b.normal < a.normal) || (decide (a.normal = b.normal) && decide (b.log.length < a.log.length))
def bestOf (l : List (Kept × Bool)) : Kept := l.foldl (fun b g => if g.2 && better g.1 b then g.1 else b) { kept0 with normal := -1 }
def maxCommit (l : List (Kept × Bool)) : Int := l.foldl (fun c g => if g.2 then max c g.1.commit else c) 0
def begun (r : Replica) : Replica × List Message :=
  if r.given.getD r.me.toNat false = false then (r, [])
  else if r.given.countP id < 2 then (r, [])
  else
    let l := r.gives.zip r.given
    let b := bestOf l
    let r1 := fresh { r with kept := ⟨r.kept.view, r.kept.view, true, b.log, min (maxCommit l) b.log.length⟩ }
    (r1, leadOn r1)
def give1 (r : Replica) (i : Int) (k : Kept) : Replica :=
  { r with gives := r.gives.set i.toNat (own k), given := r.given.set i.toNat true }
def take1 (r : Replica) (i : Int) (k : Kept) : Replica × List Message := begun (give1 r i k)
def hearLead (r : Replica) (m : Message) : Replica × List Message :=
  let k := r.kept
  let r1 :=
    if k.view < m.view ∨ k.calm = false then
      fresh { r with kept := ⟨m.view, m.view, true, m.log, max m.commit (min k.commit m.log.length)⟩ }
    else if k.log.length < m.log.length then { r with kept := { k with log := m.log } } else r
  let r2 := { r1 with kept := { r1.kept with commit := max r1.kept.commit (min m.commit r1.kept.log.length) } }
  (r2, [{ msg0 with kind := 2, from_ := r.me, to := m.from_, view := r2.kept.view, n := r2.kept.log.length }])
def hearHas (r : Replica) (m : Message) : Replica × List Message :=
  if m.view ≠ r.kept.view ∨ leads r = false then (r, [])
  else
    let n := min m.n r.kept.log.length
    let r1 := { r with have_ := r.have_.set m.from_.toNat (max (r.have_.getD m.from_.toNat 0) n) }
    if r.kept.commit < n then
      let r2 := { r1 with kept := { r.kept with commit := n } }
      (r2, leadOn r2)
    else (r1, [])
def wantIf (r : Replica) (v : Int) : Replica × List Message := if r.kept.view < v then want r v else (r, [])
def hearWant (r : Replica) (m : Message) : Replica × List Message :=
  let a := wantIf r m.view
  if a.1.kept.calm = true ∨ a.1.wants.getD m.from_.toNat false = true then a
  else
    let r1 := { a.1 with wants := a.1.wants.set m.from_.toNat true }
    let to := leader r1.kept.view
    if to = r1.me then
      let b := take1 r1 to r1.kept
      (b.1, a.2 ++ b.2)
    else (r1, a.2 ++ [{ msg0 with kind := 4, from_ := r1.me, to := to, view := r1.kept.view, normal := r1.kept.normal, commit := r1.kept.commit, log := r1.kept.log }])
def hearGive (r : Replica) (m : Message) : Replica × List Message :=
  let a := wantIf r m.view
  if a.1.kept.calm = true then a
  else
    let r1 := if a.1.given.getD a.1.me.toNat false = false then give1 a.1 a.1.me a.1.kept else a.1
    let b := take1 r1 m.from_ ⟨m.view, m.normal, false, m.log, m.commit⟩
    (b.1, a.2 ++ b.2)
def hearIt (r : Replica) (m : Message) : Replica × List Message :=
  if m.kind = 1 then hearLead r m else if m.kind = 2 then hearHas r m else if m.kind = 3 then hearWant r m else hearGive r m
def hear (r : Replica) (m : Message) : Replica × List Message × Int :=
  if repFault r ≠ 0 then (replica0, [], repFault r)
  else if msgFault m ≠ 0 then (replica0, [], msgFault m)
  else if m.to ≠ r.me then (replica0, [], 6)
  else if m.view < r.kept.view then (replica0, [], 9)
  else ((hearIt r m).1, (hearIt r m).2, 0)
def take (r : Replica) (e : Str) : Replica × List Message × Int :=
  if repFault r ≠ 0 then (replica0, [], repFault r)
  else if leads r = false then (replica0, [], 14)
  else if r.kept.log.length = 60 then (replica0, [], 7)
  else if (decode e).2 ≠ 0 then (replica0, [], (decode e).2)
  else
    let r1 := { r with kept := { r.kept with log := r.kept.log ++ [e] } }
    (r1, leadOn r1, 0)
def tick (r : Replica) : Replica × List Message × Int :=
  if repFault r ≠ 0 then (replica0, [], repFault r)
  else if leads r = true then (r, leadOn r, 0)
  else if r.kept.calm = true then (r, [{ msg0 with kind := 2, from_ := r.me, to := leader r.kept.view, view := r.kept.view, n := r.kept.log.length }], 0)
  else
    let r1 := { r with wants := r.wants.set r.me.toNat true }
    (r1, toAll r.me r.kept.view { msg0 with kind := 3 }, 0)
def alarm (r : Replica) : Replica × List Message × Int :=
  if repFault r ≠ 0 then (replica0, [], repFault r)
  else if r.kept.view = 1048576 then (replica0, [], 7)
  else ((want r (r.kept.view + 1)).1, (want r (r.kept.view + 1)).2, 0)

/- net -/
structure Net where
  replicas : List Replica
  slots : List (List Str)
  flying : List Message
  clients : List Customer
  told : List Told
deriving DecidableEq

def sendAll (f l : List Message) : List Message := l.foldl (fun f m => if f.length < 80 then f ++ [m] else f) f
def crash (x : Net) (r : Nat) : Net × Int :=
  let a := load (x.slots.getD r [])
  if a.2.2.2 ≠ 0 then (x, a.2.2.2)
  else
    let b := repNew r a.1
    ({ x with replicas := x.replicas.set r b.1 }, b.2)
def settle (x : Net) (r : Nat) (next : Replica) (out : List Message) (upto : Int) : Net × Int :=
  if next.kept = (x.replicas.getD r replica0).kept ∧ upto < 0 then
    ({ x with replicas := x.replicas.set r next, flying := sendAll x.flying out }, 0)
  else
    let a := store (x.slots.getD r []) next.kept upto
    if a.2 ≠ 0 then (x, a.2)
    else
      let y := { x with slots := x.slots.set r a.1 }
      if 0 ≤ upto then crash y r
      else ({ y with replicas := y.replicas.set r next, flying := sendAll y.flying out }, 0)
def actMessage (x : Net) (a : Act) : Net × Int :=
  if a.k < 0 ∨ (x.flying.length : Int) ≤ a.k then (x, 6)
  else
    let m := x.flying.getD a.k.toNat msg0
    if a.kind = 8 then
      if x.flying.length = 80 then (x, 7) else ({ x with flying := x.flying ++ [m] }, 0)
    else if a.kind = 10 ∧ (a.n < 0 ∨ 4000 < a.n) then (x, 2)
    else
      let y := { x with flying := x.flying.eraseIdx a.k.toNat }
      if a.kind = 7 then (y, 0)
      else
        let h := hear (x.replicas.getD m.to.toNat replica0) m
        if h.2.2 ≠ 0 then (y, h.2.2)
        else settle y m.to.toNat h.1 h.2.1 (if a.kind = 10 then a.n else -1)
def actAt (x : Net) (a : Act) : Net × Int :=
  if a.r < 0 ∨ 3 ≤ a.r then (x, 6)
  else if a.kind = 9 then crash x a.r.toNat
  else
    let h := if a.kind = 5 then alarm (x.replicas.getD a.r.toNat replica0) else tick (x.replicas.getD a.r.toNat replica0)
    if h.2.2 ≠ 0 then (x, h.2.2)
    else settle x a.r.toNat h.1 h.2.1 (-1)
def cust0 : Customer := ⟨0, 0, req0⟩
def answer (x : Net) (c : Nat) (r : Replica) : Net × Int :=
  let cu := x.clients.getD c cust0
  if leads r = false then (x, 14)
  else
    let s := play (r.kept.log.take r.kept.commit.toNat)
    if s.2 ≠ 0 then (x, s.2)
    else
      let l := s.1.lasts.getD (cu.id - 1).toNat last0
      if l.num ≠ cu.wait.num then (x, 12)
      else ({ x with told := x.told ++ [⟨cu.wait, l.reply⟩], clients := x.clients.set c { cu with wait := req0 } }, 0)
def actBy (x : Net) (a : Act) : Net × Int :=
  if a.c < 0 ∨ (x.clients.length : Int) ≤ a.c then (x, 6)
  else
    let c := x.clients.getD a.c.toNat cust0
    if a.kind = 1 then
      if 0 < c.wait.num then (x, 12)
      else if opFault a.op ≠ 0 then (x, opFault a.op)
      else ({ x with clients := x.clients.set a.c.toNat ⟨c.id, c.next + 1, ⟨c.id, c.next, a.op⟩⟩ }, 0)
    else if c.wait.num = 0 then (x, 9)
    else if a.r < 0 ∨ 3 ≤ a.r then (x, 6)
    else if a.kind = 3 then answer x a.c.toNat (x.replicas.getD a.r.toNat replica0)
    else
      let s := encode c.wait
      if s.2 ≠ 0 then (x, s.2)
      else
        let h := take (x.replicas.getD a.r.toNat replica0) s.1
        if h.2.2 ≠ 0 then (x, h.2.2)
        else settle x a.r.toNat h.1 h.2.1 (-1)
def act (x : Net) (a : Act) : Net × Int :=
  if a.kind = 1 ∨ a.kind = 2 ∨ a.kind = 3 then actBy x a
  else if a.kind = 4 ∨ a.kind = 5 ∨ a.kind = 9 then actAt x a
  else if a.kind = 6 ∨ a.kind = 7 ∨ a.kind = 8 ∨ a.kind = 10 then actMessage x a
  else (x, 3)
def netNew (clients : Nat) : Net :=
  ⟨[(repNew 0 keptNew).1, (repNew 1 keptNew).1, (repNew 2 keptNew).1], [stageNew, stageNew, stageNew], [],
    (List.range clients).map fun c : Nat => ⟨(c : Int) + 1, 1, req0⟩, []⟩
def steps (x : Net) : List Act → Net × List Int
  | [] => (x, [])
  | a :: l => ((steps (act x a).1 l).1, (act x a).2 :: (steps (act x a).1 l).2)
def outcome0 : Outcome := ⟨[], [], [], [], [], []⟩
def run (clients : Int) (l : List Act) : Outcome × Int :=
  if clients < 1 ∨ 4 < clients then (outcome0, 2)
  else if 300 < l.length then (outcome0, 1)
  else
    let s := steps (netNew clients.toNat) l
    (⟨s.1.replicas, s.1.slots, s.1.flying, s.1.clients, s.1.told, s.2⟩, 0)

end Scu
namespace Scu

structure Gh where
  st : Int → Prop
  sl : Int → List Str
  vl : Int → List Str
  ack : Int → Int → Nat
  vw : Int → Int

def InR (j : Int) : Prop := 0 ≤ j ∧ j < 3
theorem leader_in (v : Int) : InR (leader v) := by unfold InR leader; omega

def Valid (G : Gh) (n : Int) (P : List Str) : Prop :=
  P = [] ∨ ∃ w j, w ≤ n ∧ G.st w ∧ InR j ∧ j ≠ leader w ∧ P.length ≤ G.ack j w ∧ P <+: G.vl w

def ComOk (G : Gh) (n : Int) (log : List Str) (c : Int) : Prop :=
  0 ≤ c ∧ c ≤ log.length ∧ Valid G n (log.take c.toNat)

structure VG (G : Gh) (j v : Int) (k : Kept) : Prop where
  seen : v ≤ G.vw j
  lt : k.normal < v
  st : G.st k.normal
  lo : G.sl k.normal <+: k.log
  hi : k.log <+: G.vl k.normal
  led : ∀ w, w < v → G.st w → leader w = j → w ≤ k.normal ∧ (k.normal = w → k.log = G.vl w)
  acked : ∀ w, w < v → 0 < G.ack j w → w ≤ k.normal ∧ (k.normal = w → G.ack j w ≤ k.log.length)
  com : ComOk G k.normal k.log k.commit

structure GoodG (G : Gh) : Prop where
  nn : ∀ v, G.st v → 0 ≤ v
  two : ∀ v, G.st v → ∀ i j, InR i → InR j → i ≠ j → v ≤ G.vw i ∨ v ≤ G.vw j
  pre : ∀ v, G.st v → G.sl v <+: G.vl v
  ackLen : ∀ j w, G.ack j w ≤ (G.vl w).length
  ackSt : ∀ j w, 0 < G.ack j w → G.st w ∧ w ≤ G.vw j
  lc1 : ∀ w v j, w < v → G.st w → G.st v → InR j → j ≠ leader w → ∀ P, P <+: G.vl w → P.length ≤ G.ack j w → P <+: G.sl v
  lc2 : ∀ w v j, w < v → G.st w → G.st v → InR j → j ≠ leader w → G.vw j ≤ w → G.vl w <+: G.sl v

structure KeptOk (G : Gh) (i : Int) (k : Kept) : Prop where
  view : G.vw i = k.view
  le : k.normal ≤ k.view
  calm : k.calm = true → k.normal = k.view
  wild : k.calm = false → k.normal < k.view
  st : G.st k.normal
  lo : G.sl k.normal <+: k.log
  hi : k.log <+: G.vl k.normal
  mine : leader k.normal = i → k.log = G.vl k.normal
  led : ∀ w, G.st w → leader w = i → w ≤ k.normal
  acked : ∀ w, 0 < G.ack i w → w ≤ k.normal ∧ (k.normal = w → G.ack i w ≤ k.log.length)
  com : ComOk G k.normal k.log k.commit

structure GoodR (G : Gh) (i : Int) (r : Replica) : Prop where
  inr : InR i
  me : r.me = i
  have3 : r.have_.length = 3
  wants3 : r.wants.length = 3
  gives3 : r.gives.length = 3
  given3 : r.given.length = 3
  kept : KeptOk G i r.kept
  given : ∀ j, InR j → r.given.getD j.toNat false = true → r.kept.calm = false ∧ VG G j r.kept.view (r.gives.getD j.toNat kept0)
  self : r.given.getD i.toNat false = true → r.gives.getD i.toNat kept0 = own r.kept

structure GoodM (G : Gh) (m : Message) : Prop where
  lead : m.kind = 1 → G.st m.view ∧ G.sl m.view <+: m.log ∧ m.log <+: G.vl m.view ∧ ComOk G m.view m.log m.commit
  has : m.kind = 2 → m.n ≤ G.ack m.from_ m.view
  give : m.kind = 4 → VG G m.from_ m.view ⟨m.view, m.normal, false, m.log, m.commit⟩

/-- what replica a alone may do to the ghost -/
structure Ext (a : Int) (G G' : Gh) : Prop where
  st : ∀ v, G.st v → G'.st v
  sl : ∀ v, G.st v → G'.sl v = G.sl v
  vl : ∀ v, G.st v → G.vl v <+: G'.vl v
  ack : ∀ j w, G.ack j w ≤ G'.ack j w
  vw : ∀ j, G.vw j ≤ G'.vw j
  vwOther : ∀ j, j ≠ a → G'.vw j = G.vw j
  ackOther : ∀ j w, j ≠ a → G'.ack j w = G.ack j w
  stOther : ∀ v, leader v ≠ a → (G'.st v ↔ G.st v)
  vlOther : ∀ v, leader v ≠ a → G.st v → G'.vl v = G.vl v
  ackFrozen : ∀ j w, w < G.vw j → G'.ack j w = G.ack j w
  stFrozen : ∀ w, w < G.vw (leader w) → (G'.st w → G.st w)
  vlFrozen : ∀ w, w < G.vw (leader w) → G.st w → G'.vl w = G.vl w

theorem Ext.refl (a : Int) (G : Gh) : Ext a G G :=
  ⟨fun _ h => h, fun _ _ => rfl, fun _ _ => List.prefix_refl _, fun _ _ => Nat.le_refl _, fun _ => Int.le_refl _, fun _ _ => rfl, fun _ _ _ => rfl,
    fun _ _ => Iff.rfl, fun _ _ _ => rfl, fun _ _ _ => rfl, fun _ _ h => h, fun _ _ _ => rfl⟩

theorem Ext.trans {a : Int} {G H K : Gh} (h : Ext a G H) (k : Ext a H K) : Ext a G K where
  st v hv := k.st v (h.st v hv)
  sl v hv := (k.sl v (h.st v hv)).trans (h.sl v hv)
  vl v hv := (h.vl v hv).trans (k.vl v (h.st v hv))
  ack j w := Nat.le_trans (h.ack j w) (k.ack j w)
  vw j := Int.le_trans (h.vw j) (k.vw j)
  vwOther j hj := (k.vwOther j hj).trans (h.vwOther j hj)
  ackOther j w hj := (k.ackOther j w hj).trans (h.ackOther j w hj)
  stOther v hv := (k.stOther v hv).trans (h.stOther v hv)
  vlOther v hv hs := (k.vlOther v hv (h.st v hs)).trans (h.vlOther v hv hs)
  ackFrozen j w hw := (k.ackFrozen j w (by have := h.vw j; omega)).trans (h.ackFrozen j w hw)
  stFrozen w hw hs := h.stFrozen w hw (k.stFrozen w (by have := h.vw (leader w); omega) hs)
  vlFrozen w hw hs := (k.vlFrozen w (by have := h.vw (leader w); omega) (h.st w hs)).trans (h.vlFrozen w hw hs)

theorem Valid.ext {a : Int} {G G' : Gh} {n : Int} {P : List Str} (e : Ext a G G') (h : Valid G n P) : Valid G' n P := by
  rcases h with h | ⟨w, j, h1, h2, h3, h4, h5, h6⟩
  · exact .inl h
  · exact .inr ⟨w, j, h1, e.st w h2, h3, h4, Nat.le_trans h5 (e.ack j w), h6.trans (e.vl w h2)⟩
theorem Valid.mono {G : Gh} {n m : Int} {P : List Str} (h : Valid G n P) (hm : n ≤ m) : Valid G m P := by
  rcases h with h | ⟨w, j, h1, h2⟩
  · exact .inl h
  · exact .inr ⟨w, j, by omega, h2⟩
theorem ComOk.ext {a : Int} {G G' : Gh} {n : Int} {l : List Str} {c : Int} (e : Ext a G G') (h : ComOk G n l c) : ComOk G' n l c := ⟨h.1, h.2.1, h.2.2.ext e⟩
theorem VG.ext {a : Int} {G G' : Gh} {j v : Int} {k : Kept} (e : Ext a G G') (h : VG G j v k) : VG G' j v k where
  seen := Int.le_trans h.seen (e.vw j)
  lt := h.lt
  st := e.st _ h.st
  lo := by rw [e.sl _ h.st]; exact h.lo
  hi := h.hi.trans (e.vl _ h.st)
  led w hw hs hl := by
    have hv : w < G.vw (leader w) := by rw [hl]; have := h.seen; omega
    have hs' := e.stFrozen w hv hs
    obtain ⟨h1, h2⟩ := h.led w hw hs' hl
    exact ⟨h1, fun hn => by rw [e.vlFrozen w hv hs']; exact h2 hn⟩
  acked w hw ha := by
    have hv : w < G.vw j := by have := h.seen; omega
    rw [e.ackFrozen j w hv] at ha ⊢
    exact h.acked w hw ha
  com := h.com.ext e
theorem GoodM.ext {a : Int} {G G' : Gh} {m : Message} (e : Ext a G G') (h : GoodM G m) : GoodM G' m where
  lead hk := by
    obtain ⟨h1, h2, h3, h4⟩ := h.lead hk
    exact ⟨e.st _ h1, by rw [e.sl _ h1]; exact h2, h3.trans (e.vl _ h1), h4.ext e⟩
  has hk := by have := h.has hk; have := e.ack m.from_ m.view; omega
  give hk := (h.give hk).ext e
theorem KeptOk.ext {a i : Int} {G G' : Gh} {k : Kept} (e : Ext a G G') (hi : i ≠ a) (h : KeptOk G i k) : KeptOk G' i k where
  view := (e.vwOther i hi).trans h.view
  le := h.le
  calm := h.calm
  wild := h.wild
  st := e.st _ h.st
  lo := by rw [e.sl _ h.st]; exact h.lo
  hi := h.hi.trans (e.vl _ h.st)
  mine hl := by rw [e.vlOther _ (by rw [hl]; exact hi) h.st]; exact h.mine hl
  led w hs hl := h.led w ((e.stOther w (by rw [hl]; exact hi)).1 hs) hl
  acked w ha := by rw [e.ackOther i w hi] at ha ⊢; exact h.acked w ha
  com := h.com.ext e
theorem GoodR.ext {a i : Int} {G G' : Gh} {r : Replica} (e : Ext a G G') (hi : i ≠ a) (h : GoodR G i r) : GoodR G' i r :=
  { h with kept := h.kept.ext e hi, given := fun j hj hg => ⟨(h.given j hj hg).1, (h.given j hj hg).2.ext e⟩ }

/- facts on lists -/
theorem prefix_of_two {α : Type} {a b c : List α} (h : a <+: c) (k : b <+: c) (hl : a.length ≤ b.length) : a <+: b := List.prefix_of_prefix_length_le h k hl
theorem take_of_prefix {α : Type} {a b : List α} (h : a <+: b) {n : Nat} (hn : n ≤ a.length) : b.take n = a.take n := by
  obtain ⟨t, rfl⟩ := h
  rw [List.take_append_of_le_length hn]
theorem take_len_of_prefix {α : Type} {a b : List α} (h : a <+: b) : b.take a.length = a := by
  rw [take_of_prefix h (Nat.le_refl _), List.take_length]

/- two valid lists agree -/
theorem Valid.agree {G : Gh} (g : GoodG G) {n m : Int} {P Q : List Str} (hp : Valid G n P) (hq : Valid G m Q) : P <+: Q ∨ Q <+: P := by
  rcases hp with rfl | ⟨w, j, h1, h2, h3, h4, h5, h6⟩
  · exact .inl (List.nil_prefix)
  · rcases hq with rfl | ⟨u, i, k1, k2, k3, k4, k5, k6⟩
    · exact .inr (List.nil_prefix)
    · rcases Int.lt_trichotomy w u with h | h | h
      · have hu : P <+: G.vl u := (g.lc1 w u j h h2 k2 h3 h4 P h6 h5).trans (g.pre u k2)
        exact List.prefix_or_prefix_of_prefix hu k6
      · subst h
        exact List.prefix_or_prefix_of_prefix h6 k6
      · have hw : Q <+: G.vl w := (g.lc1 u w i h k2 h2 k3 k4 Q k6 k5).trans (g.pre w h2)
        exact List.prefix_or_prefix_of_prefix h6 hw
/-- what is valid is in every later view -/
theorem Valid.in_view {G : Gh} (g : GoodG G) {n v : Int} {P : List Str} (hp : Valid G n P) (hn : n < v) (hv : G.st v) : P <+: G.sl v := by
  rcases hp with rfl | ⟨w, j, h1, h2, h3, h4, h5, h6⟩
  · exact List.nil_prefix
  · exact g.lc1 w v j (by omega) h2 hv h3 h4 P h6 h5
theorem ComOk.in_view {G : Gh} (g : GoodG G) {n v : Int} {l : List Str} {c : Int} (h : ComOk G n l c) (hn : n < v) (hv : G.st v) : l.take c.toNat <+: G.sl v := h.2.2.in_view g hn hv

theorem ComOk.length {G : Gh} {n : Int} {l : List Str} {c : Int} (h : ComOk G n l c) : (l.take c.toNat).length = c.toNat := by
  rw [List.length_take]; have := h.1; have := h.2.1; omega

/-- what was committed in one log is committed in another one that has it -/
theorem ComOk.move {G : Gh} {n m : Int} {l l' : List Str} {c : Int} (h : ComOk G n l c) (hp : l.take c.toNat <+: l') (hm : n ≤ m) : ComOk G m l' c := by
  have hl := h.length
  have h' := hp.length_le
  refine ⟨h.1, by have := h.1; omega, ?_⟩
  have : l'.take c.toNat = l.take c.toNat := by
    have := take_len_of_prefix hp
    rwa [hl] at this
  rw [this]
  exact h.2.2.mono hm
theorem ComOk.max {G : Gh} {n : Int} {l : List Str} {c d : Int} (h : ComOk G n l c) (k : ComOk G n l d) : ComOk G n l (max c d) := by
  rcases Int.le_total c d with h1 | h1
  · rw [Int.max_eq_right h1]; exact k
  · rw [Int.max_eq_left h1]; exact h

/- the ghost's moves -/
def Gh.moved (G : Gh) (i v : Int) : Gh := { G with vw := fun j => if j = i then v else G.vw j }
def Gh.acks (G : Gh) (i v : Int) (n : Nat) : Gh := { G with ack := fun j w => if j = i ∧ w = v then max (G.ack i v) n else G.ack j w }
def Gh.begins (G : Gh) (v : Int) (l : List Str) : Gh :=
  { G with st := fun w => w = v ∨ G.st w, sl := fun w => if w = v then l else G.sl w, vl := fun w => if w = v then l else G.vl w }
def Gh.longer (G : Gh) (v : Int) (l : List Str) : Gh := { G with vl := fun w => if w = v then l else G.vl w }

theorem moved_ext {G : Gh} {i v : Int} (h : G.vw i ≤ v) : Ext i G (G.moved i v) :=
  { Ext.refl i G with
    vw := fun j => by
      simp only [Gh.moved]; split
      · rename_i e; rw [e]; exact h
      · exact Int.le_refl _
    vwOther := fun j hj => by simp only [Gh.moved]; rw [if_neg hj] }
theorem moved_good {G : Gh} (g : GoodG G) {i v : Int} (h : G.vw i ≤ v) : GoodG (G.moved i v) := by
  have hv := (moved_ext h).vw
  refine { g with two := ?_, ackSt := ?_, lc2 := ?_ }
  · intro u hu a b ha hb hab
    rcases g.two u hu a b ha hb hab with h1 | h1
    · exact .inl (Int.le_trans h1 (hv a))
    · exact .inr (Int.le_trans h1 (hv b))
  · intro j w ha
    exact ⟨(g.ackSt j w ha).1, Int.le_trans (g.ackSt j w ha).2 (hv j)⟩
  · intro w u j h1 h2 h3 h4 h5 h6
    exact g.lc2 w u j h1 h2 h3 h4 h5 (Int.le_trans (hv j) h6)

theorem acks_ext {G : Gh} {i v : Int} {n : Nat} (hv : G.vw i ≤ v) : Ext i G (G.acks i v n) :=
  { Ext.refl i G with
    ack := fun j w => by
      simp only [Gh.acks]; split
      · rename_i h; obtain ⟨rfl, rfl⟩ := h; exact Nat.le_max_left _ _
      · exact Nat.le_refl _
    ackOther := fun j w hj => by simp only [Gh.acks]; rw [if_neg (fun h => hj h.1)]
    ackFrozen := fun j w hw => by
      simp only [Gh.acks]
      rw [if_neg]
      rintro ⟨rfl, rfl⟩
      omega }
theorem acks_good {G : Gh} (g : GoodG G) {i v : Int} {n : Nat} (hv : G.vw i = v) (hs : G.st v) (hn : n ≤ (G.vl v).length) (hl : i ≠ leader v) :
    GoodG (G.acks i v n) := by
  refine { g with ackLen := ?_, ackSt := ?_, lc1 := ?_ }
  · intro j w
    simp only [Gh.acks]; split
    · rename_i h; obtain ⟨rfl, rfl⟩ := h; have := g.ackLen j w; omega
    · exact g.ackLen j w
  · intro j w ha
    simp only [Gh.acks] at ha ⊢
    by_cases h : j = i ∧ w = v
    · obtain ⟨rfl, rfl⟩ := h
      exact ⟨hs, by omega⟩
    · rw [if_neg h] at ha
      exact g.ackSt j w ha
  · intro w u j h1 h2 h3 h4 h5 P h6 h7
    simp only [Gh.acks] at h7 h6 h2 h3 ⊢
    by_cases h : j = i ∧ w = v
    · obtain ⟨rfl, rfl⟩ := h
      exact h6.trans (g.lc2 w u j h1 h2 h3 h4 h5 (by omega))
    · rw [if_neg h] at h7
      exact g.lc1 w u j h1 h2 h3 h4 h5 P h6 h7

theorem longer_ext {G : Gh} {i v : Int} {l : List Str} (hv : G.vw i ≤ v) (hl : leader v = i) (hp : G.vl v <+: l) : Ext i G (G.longer v l) :=
  { Ext.refl i G with
    vl := fun w _ => by
      simp only [Gh.longer]; split
      · subst_vars; exact hp
      · exact List.prefix_refl _
    vlOther := fun w hw _ => by
      simp only [Gh.longer]; rw [if_neg]; rintro rfl; exact hw hl
    vlFrozen := fun w hw _ => by
      simp only [Gh.longer]; rw [if_neg]; rintro rfl; rw [hl] at hw; omega }
theorem longer_good {G : Gh} (g : GoodG G) {i v : Int} {l : List Str} (hv : G.vw i = v) (hl : leader v = i) (hp : G.vl v <+: l) : GoodG (G.longer v l) := by
  refine { g with pre := ?_, ackLen := ?_, lc1 := ?_, lc2 := ?_ }
  · intro w hw
    simp only [Gh.longer]; split
    · subst_vars; exact (g.pre _ hw).trans hp
    · exact g.pre w hw
  · intro j w
    simp only [Gh.longer]; split
    · subst_vars; exact Nat.le_trans (g.ackLen j _) hp.length_le
    · exact g.ackLen j w
  · intro w u j h1 h2 h3 h4 h5 P h6 h7
    simp only [Gh.longer] at h6 h7 ⊢
    split at h6
    · rename_i e
      subst e
      exact g.lc1 w u j h1 h2 h3 h4 h5 P (prefix_of_two h6 hp (Nat.le_trans h7 (g.ackLen j w))) h7
    · exact g.lc1 w u j h1 h2 h3 h4 h5 P h6 h7
  · intro w u j h1 h2 h3 h4 h5 h6
    simp only [Gh.longer] at h6 ⊢
    split
    · rename_i e
      subst e
      exfalso
      have hi : InR i := by rw [← hl]; exact leader_in _
      rcases g.two u h3 j i h4 hi (by rw [← hl]; exact h5) with h | h <;> omega
    · exact g.lc2 w u j h1 h2 h3 h4 h5 h6

/-- THE HEART: a view begins with what two have given: all that may be committed in an earlier view is in it. -/
theorem begins_good {G : Gh} (g : GoodG G) {i v : Int} (hl : leader v = i) (hvi : G.vw i = v) (hnot : ¬ G.st v) (hnn : 0 ≤ v)
    (K : Int → Kept) (S : Int → Prop) (hS : ∀ j, S j → InR j ∧ VG G j v (K j)) (hi : S i) (p q : Int) (hq : S q) (hqi : q ≠ i) (hp : S p)
    (hbest : ∀ j, S j → (K j).normal < (K p).normal ∨ ((K j).normal = (K p).normal ∧ (K j).log.length ≤ (K p).log.length)) :
    Ext i G (G.begins v (K p).log) ∧ GoodG (G.begins v (K p).log) := by
  have hVp := (hS p hp).2
  have hN : ∀ w, G.st w → w ≠ v := fun w hw e => hnot (e ▸ hw)
  have hext : Ext i G (G.begins v (K p).log) :=
    { Ext.refl i G with
      st := fun w hw => .inr hw
      sl := fun w hw => by simp only [Gh.begins]; rw [if_neg (hN w hw)]
      vl := fun w hw => by simp only [Gh.begins]; rw [if_neg (hN w hw)]; exact List.prefix_refl _
      stOther := fun w hw => ⟨fun h => h.resolve_left (fun e => hw (e ▸ hl)), .inr⟩
      vlOther := fun w hw hs => by simp only [Gh.begins]; rw [if_neg (hN w hs)]
      stFrozen := fun w hw h => h.resolve_left (fun e => by subst e; rw [hl] at hw; omega)
      vlFrozen := fun w hw hs => by simp only [Gh.begins]; rw [if_neg (hN w hs)] }
  -- who gave a log of view N: the best is at least that
  have hge : ∀ j, S j → ∀ w, w ≤ (K j).normal → w ≤ (K p).normal := fun j hj w hw => by rcases hbest j hj with h | h <;> omega
  have hsame : ∀ j, S j → ∀ w, w ≤ (K j).normal → (K p).normal = w → (K j).normal = w ∧ (K j).log.length ≤ (K p).log.length := fun j hj w hw he => by
    rcases hbest j hj with h | h
    · omega
    · exact ⟨by omega, h.2⟩
  have hack0 : ∀ j, G.ack j v = 0 := fun j => by
    rcases Nat.eq_zero_or_pos (G.ack j v) with h | h
    · exact h
    · exact absurd (g.ackSt j v h).1 hnot
  have hone : ∀ j, InR j → ¬ S j → ∀ l, InR l → l ≠ j → S l := by
    intro j hj hn l hlr hlj
    have h1 : j ≠ i := fun e => hn (e ▸ hi)
    have h2 : j ≠ q := fun e => hn (e ▸ hq)
    have hir := (hS i hi).1
    have hqr := (hS q hq).1
    unfold InR at *
    by_cases e : l = i
    · exact e ▸ hi
    · have : l = q := by omega
      exact this ▸ hq
  have key1 : ∀ w j, w < v → G.st w → InR j → j ≠ leader w → ∀ P, P <+: G.vl w → P.length ≤ G.ack j w → P <+: (K p).log := by
    intro w j hwv hs hj hjl P hP hlen
    rcases Nat.eq_zero_or_pos P.length with h0 | h0
    · rw [List.length_eq_zero_iff.1 h0]; exact List.nil_prefix
    have hpos : 0 < G.ack j w := by omega
    have claim : w ≤ (K p).normal ∧ ((K p).normal = w → P.length ≤ (K p).log.length) := by
      by_cases hSj : S j
      · obtain ⟨a1, a2⟩ := (hS j hSj).2.acked w hwv hpos
        refine ⟨hge j hSj w a1, fun he => ?_⟩
        obtain ⟨b1, b2⟩ := hsame j hSj w a1 he
        have := a2 b1
        omega
      · have hSl := hone j hj hSj (leader w) (leader_in w) hjl.symm
        obtain ⟨a1, a2⟩ := (hS _ hSl).2.led w hwv hs rfl
        refine ⟨hge _ hSl w a1, fun he => ?_⟩
        obtain ⟨b1, b2⟩ := hsame _ hSl w a1 he
        rw [a2 b1] at b2
        have := hP.length_le
        omega
    obtain ⟨c1, c2⟩ := claim
    by_cases he : (K p).normal = w
    · exact prefix_of_two hP (he ▸ hVp.hi) (c2 he)
    · exact (g.lc1 w (K p).normal j (by omega) hs hVp.st hj hjl P hP hlen).trans hVp.lo
  have key2 : ∀ w j, w < v → G.st w → InR j → j ≠ leader w → G.vw j ≤ w → G.vl w <+: (K p).log := by
    intro w j hwv hs hj hjl hvw
    have hSj : ¬ S j := fun h => by have := (hS j h).2.seen; omega
    have hSl := hone j hj hSj (leader w) (leader_in w) hjl.symm
    obtain ⟨a1, a2⟩ := (hS _ hSl).2.led w hwv hs rfl
    have hw := hge _ hSl w a1
    by_cases he : (K p).normal = w
    · obtain ⟨b1, b2⟩ := hsame _ hSl w a1 he
      rw [a2 b1] at b2
      exact prefix_of_two (List.prefix_refl _) (he ▸ hVp.hi) b2
    · exact (g.lc2 w (K p).normal j (by omega) hs hVp.st hj hjl hvw).trans hVp.lo
  refine ⟨hext, ?_⟩
  refine { nn := ?_, two := ?_, pre := ?_, ackLen := ?_, ackSt := ?_, lc1 := ?_, lc2 := ?_ }
  · intro u hu
    rcases hu with rfl | hu
    · exact hnn
    · exact g.nn u hu
  · intro u hu a b ha hb hab
    rcases hu with rfl | hu
    · have hsi := (hS i hi).2.seen
      have hsq := (hS q hq).2.seen
      have hir := (hS i hi).1
      have hqr := (hS q hq).1
      show u ≤ G.vw a ∨ u ≤ G.vw b
      by_cases e1 : a = i
      · subst e1; exact .inl hsi
      by_cases e2 : a = q
      · subst e2; exact .inl hsq
      by_cases e3 : b = i
      · subst e3; exact .inr hsi
      · have : b = q := by unfold InR at *; omega
        subst this; exact .inr hsq
    · exact g.two u hu a b ha hb hab
  · intro w hw
    simp only [Gh.begins]
    split
    · exact List.prefix_refl _
    · rename_i hne
      exact g.pre w (hw.resolve_left hne)
  · intro j w
    simp only [Gh.begins]
    split
    · subst_vars; rw [hack0]; omega
    · exact g.ackLen j w
  · intro j w h
    exact ⟨.inr (g.ackSt j w h).1, (g.ackSt j w h).2⟩
  · intro w u j h1 h2 h3 h4 h5 P h6 h7
    simp only [Gh.begins] at h6 ⊢
    have h7' : P.length ≤ G.ack j w := h7
    by_cases ew : w = v
    · subst ew
      rw [hack0] at h7'
      have : P = [] := List.length_eq_zero_iff.1 (by omega)
      subst this
      exact List.nil_prefix
    · rw [if_neg ew] at h6
      have hsw := h2.resolve_left ew
      by_cases eu : u = v
      · rw [if_pos eu]
        exact key1 w j (by omega) hsw h4 h5 P h6 h7'
      · rw [if_neg eu]
        exact g.lc1 w u j h1 hsw (h3.resolve_left eu) h4 h5 P h6 h7'
  · intro w u j h1 h2 h3 h4 h5 h6
    simp only [Gh.begins] at ⊢
    have h6' : G.vw j ≤ w := h6
    by_cases ew : w = v
    · subst ew
      exfalso
      have hsu : G.st u := h3.resolve_left (by omega)
      have hir := (hS i hi).1
      rcases g.two u hsu j i h4 hir (by rw [← hl]; exact h5) with h | h <;> omega
    · rw [if_neg ew]
      have hsw := h2.resolve_left ew
      by_cases eu : u = v
      · rw [if_pos eu]
        exact key2 w j (by omega) hsw h4 h5 h6'
      · rw [if_neg eu]
        exact g.lc2 w u j h1 hsw (h3.resolve_left eu) h4 h5 h6'

end Scu

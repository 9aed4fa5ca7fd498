/- Part 1: words and walks under the law 'ReplicaTicks'. -/
import Derived.Test.YtjbhkmadcjnbfaaRows
import Derived.WalkKit
import Derived.ProofKit
import Derived.ClosedOfChecked
import Derived.Test.YtjbhkmadcjnbfaaChecked
import Derived.WalkLawsBesides
import Derived.WalkSpells
import Derived.Deep.QuietTactic
import Derived.BigQuiet
import Derived.Lib.Hide
import Derived.Handy
import Derived.WalkSmall
import Derived.Deep.RegionWith
import Derived.Deep.RegionHeld3
import Derived.StillTailTactics
set_option linter.unusedVariables false
set_option linter.unusedSimpArgs false
/- Closed facts on the program that every row of this seat asks for: each a theorem of its own. -/
namespace Go.Proofs.Ytjbhkmadcjnbfaa
set_option maxRecDepth 1000000
def signs : List Nat := [104, 97, 114, 110, 101, 115, 115, 32, 101, 52, 57, 100, 51, 49, 50, 50, 98, 100, 100, 50, 49, 55, 57, 57, 54, 51, 100, 101, 56, 98, 57, 49, 97, 98, 98, 50, 53, 99, 51, 101, 101, 100, 50, 98, 49, 57, 51, 55, 101, 97, 100, 49, 98, 57, 52, 100, 51, 52, 102, 57, 52, 49, 54, 50, 99, 97, 53, 53, 57, 100, 98, 56, 32, 99, 117, 116, 32, 97, 116, 32, 115, 99, 117, 108, 108, 105, 110, 103, 47, 115, 99, 117, 108, 108, 105, 110, 103, 108, 97, 119, 46, 82, 101, 112, 108, 105, 99, 97, 84, 105, 99, 107, 115, 32, 115, 99, 117, 108, 108, 105, 110, 103, 47, 115, 99, 117, 108, 108, 105, 110, 103, 108, 97, 119, 46, 82, 101, 112, 108, 105, 99, 97, 84, 97, 107, 101, 115, 32, 115, 99, 117, 108, 108, 105, 110, 103, 47, 115, 99, 117, 108, 108, 105, 110, 103, 108, 97, 119, 46, 82, 101, 112, 108, 105, 99, 97, 65, 108, 97, 114, 109, 115, 32, 115, 99, 117, 108, 108, 105, 110, 103, 47, 115, 99, 117, 108, 108, 105, 110, 103, 108, 97, 119, 46, 82, 101, 112, 108, 105, 99, 97, 72, 101, 97, 114, 115]
theorem order_eq : Try.prog.initOrder = String.ofList (signs.map Char.ofNat) := by kernel_rfl
theorem order_list : Try.prog.initOrder.toList = signs.map Char.ofNat := by rw [order_eq]; exact String.toList_ofList
def words : List (List Nat) := [[99, 117, 116], [97, 116], [115, 99, 117, 108, 108, 105, 110, 103, 47, 115, 99, 117, 108, 108, 105, 110, 103, 108, 97, 119, 46, 82, 101, 112, 108, 105, 99, 97, 84, 105, 99, 107, 115], [115, 99, 117, 108, 108, 105, 110, 103, 47, 115, 99, 117, 108, 108, 105, 110, 103, 108, 97, 119, 46, 82, 101, 112, 108, 105, 99, 97, 84, 97, 107, 101, 115], [115, 99, 117, 108, 108, 105, 110, 103, 47, 115, 99, 117, 108, 108, 105, 110, 103, 108, 97, 119, 46, 82, 101, 112, 108, 105, 99, 97, 65, 108, 97, 114, 109, 115], [115, 99, 117, 108, 108, 105, 110, 103, 47, 115, 99, 117, 108, 108, 105, 110, 103, 108, 97, 119, 46, 82, 101, 112, 108, 105, 99, 97, 72, 101, 97, 114, 115]]
theorem words_eq : behindMainWord (wordsSigns Try.prog.initOrder.toList) = words.map (·.map Char.ofNat) := by
  rw [order_list]
  kernel_rfl
def makeAt (P : Program) (W : List (List Char)) : Option Make := match W with
  | c :: rest => if c == "gc".toList || c == "spec".toList then some .whole else if c == "cut".toList || (c == "finals".toList && rest.head? == some "cut".toList) then some .cut else if c == "carried".toList then some .carried else if P.headLifts.isEmpty then none else some (.lifted P.headLifts)
  | [] => none
def mayAt (P : Program) (W : List (List Char)) : Bool := match W with
  | c :: rest =>
    ((c == "gc".toList || c == "spec".toList) && (rest.isEmpty || rest.head? == some "stop".toList)) ||
    (c == "carried".toList && rest.take 2 == ["gc".toList, "cut".toList] && !P.laysLater && !P.bearsReflect) ||
    ((stripLifts liftWords (c :: rest)).2.head? == some "cut".toList &&
      ((stripLifts liftWords (c :: rest)).1.contains "finals" || !P.laysLater) && ((stripLifts liftWords (c :: rest)).1.contains "reflectrows" || !P.bearsReflect) &&
      ((stripLifts liftWords (c :: rest)).1.contains "reflectrows" || !(stripLifts liftWords (c :: rest)).1.contains "leanrows") &&
      P.doorFits (stripLifts liftWords (c :: rest)).1)
  | [] => false
def liftsAt (ws : List (List Char)) : Bool :=
  (ws.head? == some "carried".toList && ws.take 3 != ["carried".toList, "gc".toList, "cut".toList]) || (if (stripLifts liftWords ws).2.head? == some "cut".toList then (stripLifts liftWords ws).1 else []).contains "finals"
theorem make_at {P : Program} {W : List (List Char)} (h : behindMainWord (wordsSigns P.initOrder.toList) = W) : P.make = makeAt P W := by subst h; rfl
theorem may_at {P : Program} {W : List (List Char)} (h : behindMainWord (wordsSigns P.initOrder.toList) = W) : P.mayEnter = mayAt P W := by subst h; rfl
theorem lifts_at {P : Program} {W : List (List Char)} (h : behindMainWord (wordsSigns P.initOrder.toList) = W) : P.liftsFinal = liftsAt W := by subst h; rfl
theorem f_mayEnter : Try.prog.mayEnter = true := (may_at words_eq).trans (by kernel_rfl)
theorem f_make : Try.prog.make = some .cut := (make_at words_eq).trans (by kernel_rfl)
theorem f_lifts : Try.prog.liftsFinal = false := (lifts_at words_eq).trans (by kernel_rfl)
theorem f_laid : laidOutB Try.prog = true := by kernel_rfl
theorem f_maps : mapsRowed Try.prog = true := by kernel_rfl
theorem f_keys : Try.prog.plainKeys = true := by kernel_rfl
theorem f_heard : Try.prog.stopsHeard = true := by kernel_rfl
theorem f_stops : Try.prog.stops = [] := by kernel_rfl
theorem f_knobs : Try.prog.stopKnobs = [] := by kernel_rfl
/-- The closed facts of a row, out of those of the program and what is left of them. -/
theorem facts_of {f : FuncId} {fn : Func} {s : ChangeSpec} {c : OpenClaim} (hm : c.make = .cut) (hl : c.lifted = false) (hp : c.plainKeys = true) (hst : c.stops = []) (hk : c.knobs = []) (hsh : c.shortTexts = none)
    (h1 : (c.wf (OpenSpec.ofChange s) && (fn.params.all (Try.prog.readableRec ·) && namedTie Try.prog c.named s.vars)) = true)
    (h2 : (c.inPlace == Try.prog.inPlace f) = true) (h3 : (c.unfollowed == Try.prog.unfollowed f) = true) (h4 : (c.recurses == Try.prog.recurses f) = true) (h5 : (c.named == Try.prog.varsNamed f) = true)
    (h6 : ((c.maps == (fn.params.toList ++ s.plain.varTypes Try.prog).any (Try.prog.mapsRec ·)) && (c.ifaces == (fn.params.toList ++ s.plain.varTypes Try.prog).any (Try.prog.ifacesRec ·)) && (c.mapsOut == Try.prog.mapsAmong fn.resultTypes.toList) &&
      (c.loops == (fn.params.toList ++ s.plain.varTypes Try.prog).any (Try.prog.loopsFrom ·)) && (c.wideKeys == (fn.params.toList ++ s.plain.varTypes Try.prog ++ fn.resultTypes.toList).any (Try.prog.wideKeysFrom ·)) &&
      s.vars.all (Try.prog.varReadable ·) && fn.resultTypes.all (fun t => Try.prog.readableRec t && decide (t < Try.prog.types.size)) && (c.ifacesOut == fn.resultTypes.toList.any (Try.prog.ifacesRec ·)) && (c.loopsOut == fn.resultTypes.toList.any (Try.prog.loopsFrom ·))) = true)
    (h7 : ((c.kinds == (if c.domain.isEmpty then [] else fn.params.toList.map fun t => match Try.prog.underlying t with | some (.int k) => some k | _ => none)) && (c.pinned == c.pinnedBy) &&
      ((c.veiled == (fn.params.toList ++ s.plain.varTypes Try.prog ++ fn.resultTypes.toList).any (Try.prog.veiledRec ·)) && c.veiledFits Try.prog fn.params.toList (fn.params.toList ++ s.plain.varTypes Try.prog ++ fn.resultTypes.toList))) = true) :
    joinedFacts Try.prog f fn s c = true := by
  simp only [Bool.and_eq_true] at h1 h6 h7
  obtain ⟨a1, a2, a3⟩ := h1
  obtain ⟨⟨⟨⟨⟨⟨⟨⟨b1, b2⟩, b3⟩, b4⟩, b5⟩, b6⟩, b7⟩, b8⟩, b9⟩ := h6
  obtain ⟨⟨c1, c2⟩, c3, c4⟩ := h7
  unfold joinedFacts
  simp only [Bool.and_eq_true]
  refine ⟨⟨⟨⟨⟨⟨⟨⟨⟨⟨⟨⟨⟨⟨⟨⟨⟨⟨⟨⟨⟨⟨⟨⟨⟨⟨⟨⟨⟨⟨⟨a1, f_laid⟩, f_maps⟩, a2⟩, a3⟩, ?_⟩, ?_⟩, ?_⟩, ?_⟩, h2⟩, h3⟩, h4⟩, h5⟩, b1⟩, b2⟩, b3⟩, b4⟩, b5⟩, b6⟩, b7⟩, b8⟩, b9⟩, ?_⟩, ?_⟩, f_heard⟩, f_mayEnter⟩, ?_⟩, ?_⟩, c1⟩, c2⟩, c3⟩, c4⟩
  · rw [hst]; rfl
  · rw [f_stops]; rfl
  · rw [hk]; rfl
  · rw [f_knobs]; rfl
  · rw [hp, f_keys]; rfl
  · rw [hsh]; rfl
  · rw [hl, f_lifts]; rfl
  · rw [f_make, hm]; exact beq_self_eq_true _
end Go.Proofs.Ytjbhkmadcjnbfaa
namespace Scu

abbrev Str := ByteArray

structure Op where
  kind : Int
  at_ : Int
  snap : Int
  data : Str
deriving DecidableEq

structure Reply where
  code : Int
  n : Int
  data : Str
deriving DecidableEq

structure Volume where
  now : List Str
  snaps : List (List Str)
deriving DecidableEq

structure Request where
  client : Int
  num : Int
  op : Op
deriving DecidableEq

structure Last where
  num : Int
  reply : Reply
deriving DecidableEq

structure State where
  volume : Volume
  lasts : List Last
deriving DecidableEq

structure Kept where
  view : Int
  normal : Int
  calm : Bool
  log : List Str
  commit : Int
deriving DecidableEq

structure Replica where
  me : Int
  kept : Kept
  have_ : List Int
  wants : List Bool
  gives : List Kept
  given : List Bool
deriving DecidableEq

structure Message where
  kind : Int
  from_ : Int
  to : Int
  view : Int
  normal : Int
  commit : Int
  n : Int
  log : List Str
deriving DecidableEq

structure Customer where
  id : Int
  next : Int
  wait : Request
deriving DecidableEq

structure Act where
  kind : Int
  c : Int
  r : Int
  k : Int
  n : Int
  op : Op
deriving DecidableEq

structure Told where
  request : Request
  reply : Reply
deriving DecidableEq

structure Outcome where
  replicas : List Replica
  slots : List (List Str)
  flying : List Message
  clients : List Customer
  told : List Told
  codes : List Int
deriving DecidableEq

def str0 : Str := ByteArray.empty
def op0 : Op := ⟨0, 0, 0, str0⟩
def reply0 : Reply := ⟨0, 0, str0⟩
def vol0 : Volume := ⟨[], []⟩
def req0 : Request := ⟨0, 0, op0⟩
def last0 : Last := ⟨0, reply0⟩
def state0 : State := ⟨vol0, []⟩
def kept0 : Kept := ⟨0, 0, false, [], 0⟩
def replica0 : Replica := ⟨0, kept0, [], [], [], []⟩
def msg0 : Message := ⟨0, 0, 0, 0, 0, 0, 0, []⟩

/- layer 1 -/
def b8 (n : Int) : UInt8 := UInt8.ofNat (n % 256).toNat
def numBytes (n : Int) : Str := ⟨#[b8 (n / 16777216), b8 (n / 65536), b8 (n / 256), b8 n]⟩
def number (n : Int) : Str × Int := if n < 0 ∨ 1073741824 < n then (str0, 2) else (numBytes n, 0)
def textBytes (s : Str) : Str := ⟨#[b8 s.size]⟩ ++ s
def text (s : Str) : Str × Int := if 255 < s.size then (str0, 1) else (textBytes s, 0)
def byteAt (s : Str) (i : Nat) : Int := ((s.data.toList.getD i 0).toNat : Int)
def num4 (s : Str) : Int := byteAt s 0 * 16777216 + byteAt s 1 * 65536 + byteAt s 2 * 256 + byteAt s 3
def dropS (s : Str) (k : Nat) : Str := s.extract k s.size
def readNumber (s : Str) : Int × Str × Int :=
  if s.size < 4 then (0, str0, 5)
  else if 1073741824 < num4 s then (0, str0, 4)
  else (num4 s, dropS s 4, 0)
def readText (s : Str) : Str × Str × Int :=
  if s.size = 0 then (str0, str0, 5)
  else if (s.size : Int) - 1 < byteAt s 0 then (str0, str0, 5)
  else (s.extract 1 (1 + byteAt s 0).toNat, dropS s (1 + byteAt s 0).toNat, 0)
def sealStep (p : Int × Int) (b : UInt8) : Int × Int :=
  let x := (p.1 + b.toNat) % 65521
  (x, (p.2 + x) % 65521)
def sealXY (l : List UInt8) : Int × Int := l.foldl sealStep (1, 0)
def sealS (s : Str) : Str :=
  let p := sealXY s.data.toList
  ⟨#[b8 (p.2 / 256), b8 p.2, b8 (p.1 / 256), b8 p.1]⟩

/- volume -/
def volNew : Volume := ⟨List.replicate 6 str0, []⟩
def sectorsOk (l : List Str) : Bool := l.length == 6 && l.all fun s => decide (s.size ≤ 8)
def volOk (v : Volume) : Bool := sectorsOk v.now && decide (v.snaps.length ≤ 3) && v.snaps.all sectorsOk
def volFault (v : Volume) : Int := if volOk v then 0 else 8
def opFault (o : Op) : Int :=
  if o.kind < 1 ∨ 4 < o.kind then 3
  else if o.at_ < 0 ∨ 6 ≤ o.at_ ∨ o.snap < 0 ∨ 3 < o.snap then 2
  else if (o.kind ≠ 3 ∧ o.snap ≠ 0) ∨ (o.kind = 4 ∧ o.at_ ≠ 0) ∨ (o.kind ≠ 1 ∧ o.data.size ≠ 0) then 4
  else if 8 < o.data.size then 1 else 0
def doIt (v : Volume) (o : Op) : Volume × Reply :=
  if o.kind = 1 ∨ o.kind = 2 then (⟨v.now.set o.at_.toNat o.data, v.snaps⟩, reply0)
  else if o.kind = 4 then
    if v.snaps.length = 3 then (v, { reply0 with code := 7 }) else (⟨v.now, v.snaps ++ [v.now]⟩, { reply0 with n := v.snaps.length + 1 })
  else if o.snap = 0 then (v, { reply0 with data := v.now.getD o.at_.toNat str0 })
  else if (v.snaps.length : Int) < o.snap then (v, { reply0 with code := 6 })
  else (v, { reply0 with data := (v.snaps.getD (o.snap - 1).toNat []).getD o.at_.toNat str0 })
def volDo (v : Volume) (o : Op) : Volume × Reply × Int :=
  if volFault v ≠ 0 then (vol0, reply0, volFault v)
  else if opFault o ≠ 0 then (vol0, reply0, opFault o)
  else ((doIt v o).1, (doIt v o).2, 0)

/- machine -/
def reqFault (r : Request) : Int := if r.client < 1 ∨ 4 < r.client ∨ r.num < 1 ∨ 1048576 < r.num then 2 else opFault r.op
def reqBytes (r : Request) : Str := ⟨#[b8 r.client, b8 r.op.kind, b8 r.op.at_, b8 r.op.snap]⟩ ++ numBytes r.num ++ textBytes r.op.data
def encode (r : Request) : Str × Int := if reqFault r ≠ 0 then (str0, reqFault r) else (reqBytes r, 0)
def decode (s : Str) : Request × Int :=
  if 40 < s.size then (req0, 1)
  else if s.size < 4 then (req0, 5)
  else
    let a := readNumber (dropS s 4)
    if a.2.2 ≠ 0 then (req0, a.2.2) else
    let b := readText a.2.1
    if b.2.2 ≠ 0 then (req0, b.2.2) else
    if b.2.1 ≠ str0 then (req0, 4) else
    let r : Request := ⟨byteAt s 0, a.1, ⟨byteAt s 1, byteAt s 2, byteAt s 3, b.1⟩⟩
    if reqFault r ≠ 0 then (req0, reqFault r) else (r, 0)
def stateNew : State := ⟨volNew, List.replicate 4 last0⟩
def lastsOk (l : List Last) : Bool := l.length == 4 && l.all fun x => decide (0 ≤ x.num) && decide (x.num ≤ 1048576)
def stateFault (s : State) : Int := if lastsOk s.lasts then volFault s.volume else 8
def applyIt (s : State) (r : Request) : State :=
  if r.num ≤ (s.lasts.getD (r.client - 1).toNat last0).num then s
  else ⟨(doIt s.volume r.op).1, s.lasts.set (r.client - 1).toNat ⟨r.num, (doIt s.volume r.op).2⟩⟩
def apply (s : State) (e : Str) : State × Int :=
  if stateFault s ≠ 0 then (state0, stateFault s)
  else if (decode e).2 ≠ 0 then (state0, (decode e).2)
  else (applyIt s (decode e).1, 0)
def playFrom (s : State) : List Str → State × Int
  | [] => (s, 0)
  | e :: l => if (apply s e).2 ≠ 0 then (state0, (apply s e).2) else playFrom (apply s e).1 l
def play (l : List Str) : State × Int := playFrom stateNew l

/- stage -/
def logFault : List Str → Int
  | [] => 0
  | e :: l => if (decode e).2 ≠ 0 then (decode e).2 else logFault l
def keptFault (k : Kept) : Int :=
  if k.view < 0 ∨ 1048576 < k.view ∨ k.normal < 0 ∨ k.view < k.normal ∨ (k.calm = true ∧ k.normal ≠ k.view) then 2
  else if 60 < k.log.length then 1
  else if k.commit < 0 ∨ (k.log.length : Int) < k.commit then 2
  else logFault k.log
def catS : List Str → Str
  | [] => str0
  | s :: l => s ++ catS l
def keptBody (k : Kept) (gen : Int) : Str :=
  numBytes gen ++ numBytes k.view ++ numBytes k.normal ++ numBytes (if k.calm then 1 else 0) ++ numBytes k.commit ++ numBytes k.log.length ++ catS (k.log.map textBytes)
def keptBytes (k : Kept) (gen : Int) : Str := sealS (keptBody k gen) ++ keptBody k gen
def stageEncode (k : Kept) (gen : Int) : Str × Int :=
  if keptFault k ≠ 0 then (str0, keptFault k)
  else if gen < 0 ∨ 1073741824 < gen then (str0, 2)
  else (keptBytes k gen, 0)
def readNumbers : Nat → Str → List Int × Str × Int
  | 0, s => ([], s, 0)
  | n + 1, s =>
    let a := readNumber s
    if a.2.2 ≠ 0 then ([], str0, a.2.2) else
    let b := readNumbers n a.2.1
    if b.2.2 ≠ 0 then ([], str0, b.2.2) else (a.1 :: b.1, b.2.1, 0)
def readTexts : Nat → Str → List Str × Str × Int
  | 0, s => ([], s, 0)
  | n + 1, s =>
    let a := readText s
    if a.2.2 ≠ 0 then ([], str0, a.2.2) else
    let b := readTexts n a.2.1
    if b.2.2 ≠ 0 then ([], str0, b.2.2) else (a.1 :: b.1, b.2.1, 0)
def stageDecode (s : Str) : Kept × Int × Int :=
  if 4000 < s.size then (kept0, 0, 1)
  else if s.size < 4 then (kept0, 0, 5)
  else if sealS (dropS s 4) ≠ s.extract 0 4 then (kept0, 0, 11)
  else
    let a := readNumbers 6 (dropS s 4)
    if a.2.2 ≠ 0 then (kept0, 0, a.2.2) else
    let l := a.1
    if 1 < l.getD 3 0 ∨ 60 < l.getD 5 0 then (kept0, 0, 4) else
    let b := readTexts (l.getD 5 0).toNat a.2.1
    if b.2.2 ≠ 0 then (kept0, 0, b.2.2) else
    if b.2.1 ≠ str0 then (kept0, 0, 4) else
    let k : Kept := ⟨l.getD 1 0, l.getD 2 0, l.getD 3 0 == 1, b.1, l.getD 4 0⟩
    if keptFault k ≠ 0 then (kept0, 0, keptFault k) else (k, l.getD 0 0, 0)
def keptNew : Kept := { kept0 with calm := true }
def stageNew : List Str := [keptBytes keptNew 0, str0]
def load (l : List Str) : Kept × Int × Int × Int :=
  if l.length ≠ 2 then (kept0, 0, 0, 4) else
  let a := stageDecode (l.getD 0 str0)
  let b := stageDecode (l.getD 1 str0)
  if a.2.2 ≠ 0 ∧ b.2.2 ≠ 0 then (kept0, 0, 0, 13)
  else if a.2.2 ≠ 0 ∨ (b.2.2 = 0 ∧ a.2.1 < b.2.1) then (b.1, b.2.1, 1, 0)
  else (a.1, a.2.1, 0, 0)
def upTo (s : Str) (n : Int) : Str := if 0 ≤ n ∧ n < s.size then s.extract 0 n.toNat else s
def store (l : List Str) (k : Kept) (upto : Int) : List Str × Int :=
  let a := load l
  if a.2.2.2 ≠ 0 then ([], a.2.2.2)
  else if a.2.1 = 1073741824 then ([], 7)
  else if keptFault k ≠ 0 then ([], keptFault k)
  else if upto < -1 then ([], 2)
  else (l.set (1 - a.2.2.1).toNat (upTo (keptBytes k (a.2.1 + 1)) upto), 0)

/- replica -/
def repNew (me : Int) (k : Kept) : Replica × Int :=
  if me < 0 ∨ 3 ≤ me then (replica0, 2)
  else if keptFault k ≠ 0 then (replica0, keptFault k)
  else (⟨me, k, [0, 0, 0], [false, false, false], [kept0, kept0, kept0], [false, false, false]⟩, 0)
def repFault (r : Replica) : Int :=
  if r.me < 0 ∨ 3 ≤ r.me then 2
  else if r.have_.length ≠ 3 ∨ r.wants.length ≠ 3 ∨ r.gives.length ≠ 3 ∨ r.given.length ≠ 3 then 8
  else if r.have_.any (fun h => decide (h < 0) || decide ((r.kept.log.length : Int) < h)) || r.gives.any (fun g => decide (keptFault g ≠ 0)) then 8
  else keptFault r.kept
def leader (view : Int) : Int := view % 3
def leads (r : Replica) : Bool := r.kept.calm && decide (leader r.kept.view = r.me)
def msgFault (m : Message) : Int :=
  if m.kind < 1 ∨ 4 < m.kind then 3
  else if m.from_ < 0 ∨ 3 ≤ m.from_ ∨ m.to < 0 ∨ 3 ≤ m.to ∨ m.from_ = m.to ∨ m.view < 0 ∨ 1048576 < m.view ∨ m.n < 0 ∨ 60 < m.n then 2
  else if (m.kind ≠ 4 ∧ m.normal ≠ 0) ∨ (m.kind ≠ 2 ∧ m.n ≠ 0) ∨ ((m.kind = 2 ∨ m.kind = 3) ∧ (m.commit ≠ 0 ∨ m.log ≠ [])) then 4
  else if (m.kind = 1 ∧ m.from_ ≠ leader m.view) ∨ ((m.kind = 2 ∨ m.kind = 4) ∧ m.to ≠ leader m.view) then 4
  else keptFault ⟨m.view, m.normal, false, m.log, m.commit⟩
def toAll (me view : Int) (m : Message) : List Message :=
  ([0, 1, 2].filter fun i => decide (i ≠ me)).map fun i => { m with from_ := me, to := i, view := view }
def fresh (r : Replica) : Replica :=
  { r with have_ := [0, 0, 0], wants := [false, false, false], gives := [kept0, kept0, kept0], given := [false, false, false] }
def leadOn (r : Replica) : List Message := toAll r.me r.kept.view { msg0 with kind := 1, commit := r.kept.commit, log := r.kept.log }
def want (r : Replica) (view : Int) : Replica × List Message :=
  let r1 := fresh { r with kept := { r.kept with view := view, calm := false } }
  let r2 := { r1 with wants := r1.wants.set r.me.toNat true }
  (r2, toAll r.me view { msg0 with kind := 3 })
def own (k : Kept) : Kept := { k with calm := false }
def better (a b : Kept) : Bool := decide (b.normal < a.normal) || (decide (a.normal = b.normal) && decide (b.log.length < a.log.length))
def bestOf (l : List (Kept × Bool)) : Kept := l.foldl (fun b g => if g.2 && better g.1 b then g.1 else b) { kept0 with normal := -1 }
def maxCommit (l : List (Kept × Bool)) : Int := l.foldl (fun c g => if g.2 then max c g.1.commit else c) 0
def begun (r : Replica) : Replica × List Message :=
  if r.given.getD r.me.toNat false = false then (r, [])
  else if r.given.countP id < 2 then (r, [])
  else
    let l := r.gives.zip r.given
    let b := bestOf l
    let r1 := fresh { r with kept := ⟨r.kept.view, r.kept.view, true, b.log, min (maxCommit l) b.log.length⟩ }
    (r1, leadOn r1)
def give1 (r : Replica) (i : Int) (k : Kept) : Replica :=
  { r with gives := r.gives.set i.toNat (own k), given := r.given.set i.toNat true }
def take1 (r : Replica) (i : Int) (k : Kept) : Replica × List Message := begun (give1 r i k)
def hearLead (r : Replica) (m : Message) : Replica × List Message :=
  let k := r.kept
  let r1 :=
    if k.view < m.view ∨ k.calm = false then
      fresh { r with kept := ⟨m.view, m.view, true, m.log, max m.commit (min k.commit m.log.length)⟩ }
    else if k.log.length < m.log.length then { r with kept := { k with log := m.log } } else r
  let r2 := { r1 with kept := { r1.kept with commit := max r1.kept.commit (min m.commit r1.kept.log.length) } }
  (r2, [{ msg0 with kind := 2, from_ := r.me, to := m.from_, view := r2.kept.view, n := r2.kept.log.length }])
def hearHas (r : Replica) (m : Message) : Replica × List Message :=
  if m.view ≠ r.kept.view ∨ leads r = false then (r, [])
  else
    let n := min m.n r.kept.log.length
    let r1 := { r with have_ := r.have_.set m.from_.toNat (max (r.have_.getD m.from_.toNat 0) n) }
    if r.kept.commit < n then
      let r2 := { r1 with kept := { r.kept with commit := n } }
      (r2, leadOn r2)
    else (r1, [])
def wantIf (r : Replica) (v : Int) : Replica × List Message := if r.kept.view < v then want r v else (r, [])
def hearWant (r : Replica) (m : Message) : Replica × List Message :=
  let a := wantIf r m.view
  if a.1.kept.calm = true ∨ a.1.wants.getD m.from_.toNat false = true then a
  else
    let r1 := { a.1 with wants := a.1.wants.set m.from_.toNat true }
    let to := leader r1.kept.view
    if to = r1.me then
      let b := take1 r1 to r1.kept
      (b.1, a.2 ++ b.2)
    else (r1, a.2 ++ [{ msg0 with kind := 4, from_ := r1.me, to := to, view := r1.kept.view, normal := r1.kept.normal, commit := r1.kept.commit, log := r1.kept.log }])
def hearGive (r : Replica) (m : Message) : Replica × List Message :=
  let a := wantIf r m.view
  if a.1.kept.calm = true then a
  else
    let r1 := if a.1.given.getD a.1.me.toNat false = false then give1 a.1 a.1.me a.1.kept else a.1
    let b := take1 r1 m.from_ ⟨m.view, m.normal, false, m.log, m.commit⟩
    (b.1, a.2 ++ b.2)
def hearIt (r : Replica) (m : Message) : Replica × List Message :=
  if m.kind = 1 then hearLead r m else if m.kind = 2 then hearHas r m else if m.kind = 3 then hearWant r m else hearGive r m
def hear (r : Replica) (m : Message) : Replica × List Message × Int :=
  if repFault r ≠ 0 then (replica0, [], repFault r)
  else if msgFault m ≠ 0 then (replica0, [], msgFault m)
  else if m.to ≠ r.me then (replica0, [], 6)
  else if m.view < r.kept.view then (replica0, [], 9)
  else ((hearIt r m).1, (hearIt r m).2, 0)
def take (r : Replica) (e : Str) : Replica × List Message × Int :=
  if repFault r ≠ 0 then (replica0, [], repFault r)
  else if leads r = false then (replica0, [], 14)
  else if r.kept.log.length = 60 then (replica0, [], 7)
  else if (decode e).2 ≠ 0 then (replica0, [], (decode e).2)
  else
    let r1 := { r with kept := { r.kept with log := r.kept.log ++ [e] } }
    (r1, leadOn r1, 0)
def tick (r : Replica) : Replica × List Message × Int :=
  if repFault r ≠ 0 then (replica0, [], repFault r)
  else if leads r = true then (r, leadOn r, 0)
  else if r.kept.calm = true then (r, [{ msg0 with kind := 2, from_ := r.me, to := leader r.kept.view, view := r.kept.view, n := r.kept.log.length }], 0)
  else
    let r1 := { r with wants := r.wants.set r.me.toNat true }
    (r1, toAll r.me r.kept.view { msg0 with kind := 3 }, 0)
def alarm (r : Replica) : Replica × List Message × Int :=
  if repFault r ≠ 0 then (replica0, [], repFault r)
  else if r.kept.view = 1048576 then (replica0, [], 7)
  else ((want r (r.kept.view + 1)).1, (want r (r.kept.view + 1)).2, 0)

/- net -/
structure Net where
  replicas : List Replica
  slots : List (List Str)
  flying : List Message
  clients : List Customer
  told : List Told
deriving DecidableEq

def sendAll (f l : List Message) : List Message := l.foldl (fun f m => if f.length < 80 then f ++ [m] else f) f
def crash (x : Net) (r : Nat) : Net × Int :=
  let a := load (x.slots.getD r [])
  if a.2.2.2 ≠ 0 then (x, a.2.2.2)
  else
    let b := repNew r a.1
    ({ x with replicas := x.replicas.set r b.1 }, b.2)
def settle (x : Net) (r : Nat) (next : Replica) (out : List Message) (upto : Int) : Net × Int :=
  if next.kept = (x.replicas.getD r replica0).kept ∧ upto < 0 then
    ({ x with replicas := x.replicas.set r next, flying := sendAll x.flying out }, 0)
  else
    let a := store (x.slots.getD r []) next.kept upto
    if a.2 ≠ 0 then (x, a.2)
    else
      let y := { x with slots := x.slots.set r a.1 }
      if 0 ≤ upto then crash y r
      else ({ y with replicas := y.replicas.set r next, flying := sendAll y.flying out }, 0)
def actMessage (x : Net) (a : Act) : Net × Int :=
  if a.k < 0 ∨ (x.flying.length : Int) ≤ a.k then (x, 6)
  else
    let m := x.flying.getD a.k.toNat msg0
    if a.kind = 8 then
      if x.flying.length = 80 then (x, 7) else ({ x with flying := x.flying ++ [m] }, 0)
    else if a.kind = 10 ∧ (a.n < 0 ∨ 4000 < a.n) then (x, 2)
    else
      let y := { x with flying := x.flying.eraseIdx a.k.toNat }
      if a.kind = 7 then (y, 0)
      else
        let h := hear (x.replicas.getD m.to.toNat replica0) m
        if h.2.2 ≠ 0 then (y, h.2.2)
        else settle y m.to.toNat h.1 h.2.1 (if a.kind = 10 then a.n else -1)
def actAt (x : Net) (a : Act) : Net × Int :=
  if a.r < 0 ∨ 3 ≤ a.r then (x, 6)
  else if a.kind = 9 then crash x a.r.toNat
  else
    let h := if a.kind = 5 then alarm (x.replicas.getD a.r.toNat replica0) else tick (x.replicas.getD a.r.toNat replica0)
    if h.2.2 ≠ 0 then (x, h.2.2)
    else settle x a.r.toNat h.1 h.2.1 (-1)
def cust0 : Customer := ⟨0, 0, req0⟩
def answer (x : Net) (c : Nat) (r : Replica) : Net × Int :=
  let cu := x.clients.getD c cust0
  if leads r = false then (x, 14)
  else
    let s := play (r.kept.log.take r.kept.commit.toNat)
    if s.2 ≠ 0 then (x, s.2)
    else
      let l := s.1.lasts.getD (cu.id - 1).toNat last0
      if l.num ≠ cu.wait.num then (x, 12)
      else ({ x with told := x.told ++ [⟨cu.wait, l.reply⟩], clients := x.clients.set c { cu with wait := req0 } }, 0)
def actBy (x : Net) (a : Act) : Net × Int :=
  if a.c < 0 ∨ (x.clients.length : Int) ≤ a.c then (x, 6)
  else
    let c := x.clients.getD a.c.toNat cust0
    if a.kind = 1 then
      if 0 < c.wait.num then (x, 12)
      else if opFault a.op ≠ 0 then (x, opFault a.op)
      else ({ x with clients := x.clients.set a.c.toNat ⟨c.id, c.next + 1, ⟨c.id, c.next, a.op⟩⟩ }, 0)
    else if c.wait.num = 0 then (x, 9)
    else if a.r < 0 ∨ 3 ≤ a.r then (x, 6)
    else if a.kind = 3 then answer x a.c.toNat (x.replicas.getD a.r.toNat replica0)
    else
      let s := encode c.wait
      if s.2 ≠ 0 then (x, s.2)
      else
        let h := take (x.replicas.getD a.r.toNat replica0) s.1
        if h.2.2 ≠ 0 then (x, h.2.2)
        else settle x a.r.toNat h.1 h.2.1 (-1)
def act (x : Net) (a : Act) : Net × Int :=
  if a.kind = 1 ∨ a.kind = 2 ∨ a.kind = 3 then actBy x a
  else if a.kind = 4 ∨ a.kind = 5 ∨ a.kind = 9 then actAt x a
  else if a.kind = 6 ∨ a.kind = 7 ∨ a.kind = 8 ∨ a.kind = 10 then actMessage x a
  else (x, 3)
def netNew (clients : Nat) : Net :=
  ⟨[(repNew 0 keptNew).1, (repNew 1 keptNew).1, (repNew 2 keptNew).1], [stageNew, stageNew, stageNew], [],
    (List.range clients).map fun c : Nat => ⟨(c : Int) + 1, 1, req0⟩, []⟩
def steps (x : Net) : List Act → Net × List Int
  | [] => (x, [])
  | a :: l => ((steps (act x a).1 l).1, (act x a).2 :: (steps (act x a).1 l).2)
def outcome0 : Outcome := ⟨[], [], [], [], [], []⟩
def run (clients : Int) (l : List Act) : Outcome × Int :=
  if clients < 1 ∨ 4 < clients then (outcome0, 2)
  else if 300 < l.length then (outcome0, 1)
  else
    let s := steps (netNew clients.toNat) l
    (⟨s.1.replicas, s.1.slots, s.1.flying, s.1.clients, s.1.told, s.2⟩, 0)

end Scu
/- Small laws for the walks: bytes made into a string; what a world keeps. -/
namespace Go.Proofs.Ytjbhkmadcjnbfaa
open Go.RowKit

theorem b8_low {n : Int} (h0 : 0 ≤ n) (h1 : n < 256) : UInt8.ofNat n.toNat = Scu.b8 n := by
  unfold Scu.b8
  rw [Int.emod_eq_of_lt h0 h1]
theorem b8_mod (n : Int) : UInt8.ofNat (n % 256).toNat = Scu.b8 n := rfl

theorem ret_pair {a b c d : Value} (h : a = c) (k : b = d) : Ending.returned (.tuple #[a, b]) = Ending.returned (.tuple #[c, d]) := by rw [h, k]
theorem ret_val {a b : Value} (h : a = b) : Ending.returned a = Ending.returned b := by rw [h]
theorem str_eq {a b : ByteArray} (h : a = b) : Value.string a = Value.string b := by rw [h]
theorem int_eq {k : IntKind} {a b : Int} (h : a = b) : Value.int k a = Value.int k b := by rw [h]
theorem bool_eq {a b : Bool} (h : a = b) : Value.bool a = Value.bool b := by rw [h]

/- bytes of a text -/
theorem byteAt_get (s : ByteArray) (i : Nat) (h : i < s.size) : ((s[i]'h).toNat : Int) = Scu.byteAt s i := by
  unfold Scu.byteAt
  have h' : i < s.data.toList.length := by simpa using h
  rw [List.getD_eq_getElem?_getD, List.getElem?_eq_getElem h']
  rfl
theorem byteAt_rng (s : ByteArray) (i : Nat) : 0 ≤ Scu.byteAt s i ∧ Scu.byteAt s i < 256 := by
  unfold Scu.byteAt
  have := (s.data.toList.getD i 0).toNat_lt
  omega
theorem ofInt_i64 (a : Nat) (ha : a < 9223372036854775808) : (BitVec.ofInt 64 (a : Int)).toNat = a := by
  rw [BitVec.ofInt_natCast, BitVec.toNat_ofNat]; exact Nat.mod_eq_of_lt (by omega)
theorem i64_or_nat (a b : Nat) (ha : a < 9223372036854775808) (hb : b < 9223372036854775808) : bits .or .i64 (a : Int) (b : Int) = ((a ||| b : Nat) : Int) := by
  have hx : a ||| b < 2 ^ 63 := Nat.or_lt_two_pow (by omega) (by omega)
  show IntKind.i64.wrap ((BitVec.ofInt 64 (a : Int) ||| BitVec.ofInt 64 (b : Int)).toNat : Int) = _
  rw [BitVec.toNat_or, ofInt_i64 a ha, ofInt_i64 b hb, IntKind.wrap_i64]
  omega
/-- 'x | y' where y lies below the bits of x -/
theorem i64_or_sum (k : Nat) (hk : k ≤ 32) (a y : Int) (ha : 0 ≤ a) (hx : a * (2 ^ k : Nat) < 9223372036854775808) (hy : 0 ≤ y) (hyk : y < (2 ^ k : Nat)) :
    bits .or .i64 (a * (2 ^ k : Nat)) y = a * (2 ^ k : Nat) + y := by
  obtain ⟨n, rfl⟩ := Int.eq_ofNat_of_zero_le ha
  obtain ⟨m, rfl⟩ := Int.eq_ofNat_of_zero_le hy
  have hm : m < 2 ^ k := by omega
  have e : ((n : Int) * (2 ^ k : Nat)) = ((n * 2 ^ k : Nat) : Int) := by push_cast; rfl
  rw [e] at hx ⊢
  have h1 : n * 2 ^ k < 9223372036854775808 := by omega
  have hs := Nat.shiftLeft_add_eq_or_of_lt hm n
  rw [Nat.shiftLeft_eq] at hs
  have hp : 2 ^ k ≤ 2 ^ 32 := Nat.pow_le_pow_right (by omega) hk
  rw [i64_or_nat _ _ h1 (by omega), ← hs]
  push_cast
  rfl
theorem i64_or8 (a y : Int) (ha : 0 ≤ a) (hx : a < 16777216) (hy : 0 ≤ y) (hyk : y < 256) : bits .or .i64 (a * 256) y = a * 256 + y :=
  i64_or_sum 8 (by omega) a y ha (by omega) hy (by omega)
theorem i64_or16 (a y : Int) (ha : 0 ≤ a) (hx : a < 16777216) (hy : 0 ≤ y) (hyk : y < 65536) : bits .or .i64 (a * 65536) y = a * 65536 + y :=
  i64_or_sum 16 (by omega) a y ha (by omega) hy (by omega)
theorem i64_or24 (a y : Int) (ha : 0 ≤ a) (hx : a < 16777216) (hy : 0 ≤ y) (hyk : y < 16777216) : bits .or .i64 (a * 16777216) y = a * 16777216 + y :=
  i64_or_sum 24 (by omega) a y ha (by omega) hy (by omega)
theorem or_bytes3 (a b : Int) (ha : 0 ≤ a) (ha' : a < 256) (hb : 0 ≤ b) (hb' : b < 256) : bits .or .i64 (a * 16777216) (b * 65536) = a * 16777216 + b * 65536 :=
  i64_or24 a _ ha (by omega) (by omega) (by omega)
theorem or_bytes2 (a b c : Int) (ha : 0 ≤ a) (ha' : a < 256) (hb : 0 ≤ b) (hb' : b < 256) (hc : 0 ≤ c) (hc' : c < 256) :
    bits .or .i64 (a * 16777216 + b * 65536) (c * 256) = a * 16777216 + b * 65536 + c * 256 := by
  have := i64_or16 (a * 256 + b) (c * 256) (by omega) (by omega) (by omega) (by omega)
  rw [show (a * 256 + b) * 65536 = a * 16777216 + b * 65536 by omega] at this
  exact this
theorem or_bytes1 (a b c d : Int) (ha : 0 ≤ a) (ha' : a < 256) (hb : 0 ≤ b) (hb' : b < 256) (hc : 0 ≤ c) (hc' : c < 256) (hd : 0 ≤ d) (hd' : d < 256) :
    bits .or .i64 (a * 16777216 + b * 65536 + c * 256) d = a * 16777216 + b * 65536 + c * 256 + d := by
  have := i64_or8 (a * 65536 + b * 256 + c) d (by omega) (by omega) (by omega) (by omega)
  rw [show (a * 65536 + b * 256 + c) * 256 = a * 16777216 + b * 65536 + c * 256 by omega] at this
  exact this
end Go.Proofs.Ytjbhkmadcjnbfaa

/- Part 1: words and walks under the law 'ReplicaHears'. -/
import Derived.Test.YtlaibljdlpmbfaaRows
import Derived.WalkKit
import Derived.ProofKit
import Derived.ClosedOfChecked
import Derived.Test.YtlaibljdlpmbfaaChecked
import Derived.WalkLawsBesides
import Derived.WalkSpells
import Derived.Deep.QuietTactic
import Derived.BigQuiet
import Derived.Lib.Hide
import Derived.Handy
import Derived.WalkSmall
import Derived.Deep.RegionWith
import Derived.Deep.RegionHeld3
import Derived.StillTailTactics
import Derived.Deep.Slices
import Derived.Deep.Fields
import Derived.Deep.Draws
import Derived.OpenShut
import Derived.ShutString
import Derived.Maps.AppendAt
import Derived.Deep.AppendLies
import Derived.Deep.RegionLaw
import Derived.RegionTactic
import Derived.OwnWalk
import Derived.SliceStrings
import Derived.SizedLaws
set_option linter.unusedVariables false
set_option linter.unusedSimpArgs false
/- Closed facts on the program that every row of this seat asks for: each a theorem of its own. -/
namespace Go.Proofs.Ytlaibljdlpmbfaa
set_option maxRecDepth 1000000
def signs : List Nat := [104, 97, 114, 110, 101, 115, 115, 32, 49, 53, 99, 56, 101, 57, 52, 49, 57, 48, 52, 53, 50, 97, 100, 100, 101, 52, 102, 100, 100, 51, 53, 56, 53, 101, 50, 49, 99, 99, 98, 101, 56, 97, 56, 52, 99, 52, 97, 101, 56, 49, 56, 97, 56, 50, 99, 100, 101, 57, 99, 55, 97, 101, 101, 49, 102, 56, 57, 100, 98, 52, 52, 98, 32, 99, 117, 116, 32, 97, 116, 32, 115, 99, 117, 108, 108, 105, 110, 103, 47, 115, 99, 117, 108, 108, 105, 110, 103, 108, 97, 119, 46, 82, 101, 112, 108, 105, 99, 97, 72, 101, 97, 114, 115]
theorem order_eq : Try.prog.initOrder = String.ofList (signs.map Char.ofNat) := by kernel_rfl
theorem order_list : Try.prog.initOrder.toList = signs.map Char.ofNat := by rw [order_eq]; exact String.toList_ofList
def words : List (List Nat) := [[99, 117, 116], [97, 116], [115, 99, 117, 108, 108, 105, 110, 103, 47, 115, 99, 117, 108, 108, 105, 110, 103, 108, 97, 119, 46, 82, 101, 112, 108, 105, 99, 97, 72, 101, 97, 114, 115]]
theorem words_eq : behindMainWord (wordsSigns Try.prog.initOrder.toList) = words.map (·.map Char.ofNat) := by
  rw [order_list]
  kernel_rfl
def makeAt (P : Program) (W : List (List Char)) : Option Make := match W with
  | c :: rest => if c == "gc".toList || c == "spec".toList then some .whole else if c == "cut".toList || (c == "finals".toList && rest.head? == some "cut".toList) then some .cut else if c == "carried".toList then some .carried else if P.headLifts.isEmpty then none else some (.lifted P.headLifts)
  | [] => none
def mayAt (P : Program) (W : List (List Char)) : Bool := match W with
  | c :: rest =>
    ((c == "gc".toList || c == "spec".toList) && (rest.isEmpty || rest.head? == some "stop".toList)) ||
    (c == "carried".toList && rest.take 2 == ["gc".toList, "cut".toList] && !P.laysLater && !P.bearsReflect) ||
    ((stripLifts liftWords (c :: rest)).2.head? == some "cut".toList &&
      ((stripLifts liftWords (c :: rest)).1.contains "finals" || !P.laysLater) && ((stripLifts liftWords (c :: rest)).1.contains "reflectrows" || !P.bearsReflect) &&
      ((stripLifts liftWords (c :: rest)).1.contains "reflectrows" || !(stripLifts liftWords (c :: rest)).1.contains "leanrows") &&
      P.doorFits (stripLifts liftWords (c :: rest)).1)
  | [] => false
def liftsAt (ws : List (List Char)) : Bool :=
  (ws.head? == some "carried".toList && ws.take 3 != ["carried".toList, "gc".toList, "cut".toList]) || (if (stripLifts liftWords ws).2.head? == some "cut".toList then (stripLifts liftWords ws).1 else []).contains "finals"
theorem make_at {P : Program} {W : List (List Char)} (h : behindMainWord (wordsSigns P.initOrder.toList) = W) : P.make = makeAt P W := by subst h; rfl
theorem may_at {P : Program} {W : List (List Char)} (h : behindMainWord (wordsSigns P.initOrder.toList) = W) : P.mayEnter = mayAt P W := by subst h; rfl
theorem lifts_at {P : Program} {W : List (List Char)} (h : behindMainWord (wordsSigns P.initOrder.toList) = W) : P.liftsFinal = liftsAt W := by subst h; rfl
theorem f_mayEnter : Try.prog.mayEnter = true := (may_at words_eq).trans (by kernel_rfl)
theorem f_make : Try.prog.make = some .cut := (make_at words_eq).trans (by kernel_rfl)
theorem f_lifts : Try.prog.liftsFinal = false := (lifts_at words_eq).trans (by kernel_rfl)
theorem f_laid : laidOutB Try.prog = true := by kernel_rfl
theorem f_maps : mapsRowed Try.prog = true := by kernel_rfl
theorem f_keys : Try.prog.plainKeys = true := by kernel_rfl
theorem f_heard : Try.prog.stopsHeard = true := by kernel_rfl
theorem f_stops : Try.prog.stops = [] := by kernel_rfl
theorem f_knobs : Try.prog.stopKnobs = [] := by kernel_rfl
/-- The closed facts of a row, out of those of the program and what is left of them. -/
theorem facts_of {f : FuncId} {fn : Func} {s : ChangeSpec} {c : OpenClaim} (hm : c.make = .cut) (hl : c.lifted = false) (hp : c.plainKeys = true) (hst : c.stops = []) (hk : c.knobs = []) (hsh : c.shortTexts = none)
    (h1 : (c.wf (OpenSpec.ofChange s) && (fn.params.all (Try.prog.readableRec ·) && namedTie Try.prog c.named s.vars)) = true)
    (h2 : (c.inPlace == Try.prog.inPlace f) = true) (h3 : (c.unfollowed == Try.prog.unfollowed f) = true) (h4 : (c.recurses == Try.prog.recurses f) = true) (h5 : (c.named == Try.prog.varsNamed f) = true)
    (h6 : ((c.maps == (fn.params.toList ++ s.plain.varTypes Try.prog).any (Try.prog.mapsRec ·)) && (c.ifaces == (fn.params.toList ++ s.plain.varTypes Try.prog).any (Try.prog.ifacesRec ·)) && (c.mapsOut == Try.prog.mapsAmong fn.resultTypes.toList) &&
      (c.loops == (fn.params.toList ++ s.plain.varTypes Try.prog).any (Try.prog.loopsFrom ·)) && (c.wideKeys == (fn.params.toList ++ s.plain.varTypes Try.prog ++ fn.resultTypes.toList).any (Try.prog.wideKeysFrom ·)) &&
      s.vars.all (Try.prog.varReadable ·) && fn.resultTypes.all (fun t => Try.prog.readableRec t && decide (t < Try.prog.types.size)) && (c.ifacesOut == fn.resultTypes.toList.any (Try.prog.ifacesRec ·)) && (c.loopsOut == fn.resultTypes.toList.any (Try.prog.loopsFrom ·))) = true)
    (h7 : ((c.kinds == (if c.domain.isEmpty then [] else fn.params.toList.map fun t => match Try.prog.underlying t with | some (.int k) => some k | _ => none)) && (c.pinned == c.pinnedBy) &&
      ((c.veiled == (fn.params.toList ++ s.plain.varTypes Try.prog ++ fn.resultTypes.toList).any (Try.prog.veiledRec ·)) && c.veiledFits Try.prog fn.params.toList (fn.params.toList ++ s.plain.varTypes Try.prog ++ fn.resultTypes.toList))) = true) :
    joinedFacts Try.prog f fn s c = true := by
  simp only [Bool.and_eq_true] at h1 h6 h7
  obtain ⟨a1, a2, a3⟩ := h1
  obtain ⟨⟨⟨⟨⟨⟨⟨⟨b1, b2⟩, b3⟩, b4⟩, b5⟩, b6⟩, b7⟩, b8⟩, b9⟩ := h6
  obtain ⟨⟨c1, c2⟩, c3, c4⟩ := h7
  unfold joinedFacts
  simp only [Bool.and_eq_true]
  refine ⟨⟨⟨⟨⟨⟨⟨⟨⟨⟨⟨⟨⟨⟨⟨⟨⟨⟨⟨⟨⟨⟨⟨⟨⟨⟨⟨⟨⟨⟨⟨a1, f_laid⟩, f_maps⟩, a2⟩, a3⟩, ?_⟩, ?_⟩, ?_⟩, ?_⟩, h2⟩, h3⟩, h4⟩, h5⟩, b1⟩, b2⟩, b3⟩, b4⟩, b5⟩, b6⟩, b7⟩, b8⟩, b9⟩, ?_⟩, ?_⟩, f_heard⟩, f_mayEnter⟩, ?_⟩, ?_⟩, c1⟩, c2⟩, c3⟩, c4⟩
  · rw [hst]; rfl
  · rw [f_stops]; rfl
  · rw [hk]; rfl
  · rw [f_knobs]; rfl
  · rw [hp, f_keys]; rfl
  · rw [hsh]; rfl
  · rw [hl, f_lifts]; rfl
  · rw [f_make, hm]; exact beq_self_eq_true _
end Go.Proofs.Ytlaibljdlpmbfaa
namespace Scu

abbrev Str := ByteArray

structure Op where
  kind : Int
  at_ : Int
  snap : Int
  data : Str
deriving DecidableEq

structure Reply where
  code : Int
  n : Int
  data : Str
deriving DecidableEq

structure Volume where
  now : List Str
  snaps : List (List Str)
deriving DecidableEq

structure Request where
  client : Int
  num : Int
  op : Op
deriving DecidableEq

structure Last where
  num : Int
  reply : Reply
deriving DecidableEq

structure State where
  volume : Volume
  lasts : List Last
deriving DecidableEq

structure Kept where
  view : Int
  normal : Int
  calm : Bool
  log : List Str
  commit : Int
deriving DecidableEq

structure Replica where
  me : Int
  kept : Kept
  have_ : List Int
  wants : List Bool
  gives : List Kept
  given : List Bool
deriving DecidableEq

structure Message where
  kind : Int
  from_ : Int
  tq : Int
  view : Int
  normal : Int
  commit : Int
  n : Int
  log : List Str
deriving DecidableEq

structure Customer where
  id : Int
  next : Int
  wait : Request
deriving DecidableEq

structure Act where
  kind : Int
  c : Int
  r : Int
  k : Int
  n : Int
  op : Op
deriving DecidableEq

structure Told where
  request : Request
  reply : Reply
deriving DecidableEq

structure Outcome where
  replicas : List Replica
  slots : List (List Str)
  flying : List Message
  clients : List Customer
  told : List Told
  codes : List Int
deriving DecidableEq

def str0 : Str := ByteArray.empty
def op0 : Op := ⟨0, 0, 0, str0⟩
def reply0 : Reply := ⟨0, 0, str0⟩
def vol0 : Volume := ⟨[], []⟩
def req0 : Request := ⟨0, 0, op0⟩
def last0 : Last := ⟨0, reply0⟩
def state0 : State := ⟨vol0, []⟩
def kept0 : Kept := ⟨0, 0, false, [], 0⟩
def replica0 : Replica := ⟨0, kept0, [], [], [], []⟩
def msg0 : Message := ⟨0, 0, 0, 0, 0, 0, 0, []⟩

/- layer 1 -/
def b8 (n : Int) : UInt8 := UInt8.ofNat (n % 256).toNat
def numBytes (n : Int) : Str := ⟨#[b8 (n / 16777216), b8 (n / 65536), b8 (n / 256), b8 n]⟩
def number (n : Int) : Str × Int := if n < 0 ∨ 1073741824 < n then (str0, 2) else (numBytes n, 0)
def textBytes (s : Str) : Str := ⟨#[b8 s.size]⟩ ++ s
def text (s : Str) : Str × Int := if 255 < s.size then (str0, 1) else (textBytes s, 0)
def byteAt (s : Str) (i : Nat) : Int := ((s.data.toList.getD i 0).toNat : Int)
def num4 (s : Str) : Int := byteAt s 0 * 16777216 + byteAt s 1 * 65536 + byteAt s 2 * 256 + byteAt s 3
def dropS (s : Str) (k : Nat) : Str := s.extract k s.size
def readNumber (s : Str) : Int × Str × Int :=
  if s.size < 4 then (0, str0, 5)
  else if 1073741824 < num4 s then (0, str0, 4)
  else (num4 s, dropS s 4, 0)
def readText (s : Str) : Str × Str × Int :=
  if s.size = 0 then (str0, str0, 5)
  else if (s.size : Int) - 1 < byteAt s 0 then (str0, str0, 5)
  else (s.extract 1 (1 + byteAt s 0).toNat, dropS s (1 + byteAt s 0).toNat, 0)
def sealStep (p : Int × Int) (b : UInt8) : Int × Int :=
  let x := (p.1 + b.toNat) % 65521
  (x, (p.2 + x) % 65521)
def sealXY (l : List UInt8) : Int × Int := l.foldl sealStep (1, 0)
def sealS (s : Str) : Str :=
  let p := sealXY s.data.toList
  ⟨#[b8 (p.2 / 256), b8 p.2, b8 (p.1 / 256), b8 p.1]⟩

/- volume -/
def volNew : Volume := ⟨List.replicate 6 str0, []⟩
def sectorsOk (l : List Str) : Bool := l.length == 6 && l.all fun s => decide (s.size ≤ 8)
def volOk (v : Volume) : Bool := sectorsOk v.now && decide (v.snaps.length ≤ 3) && v.snaps.all sectorsOk
def volFault (v : Volume) : Int := if volOk v then 0 else 8
def opFault (o : Op) : Int :=
  if o.kind < 1 ∨ 4 < o.kind then 3
  else if o.at_ < 0 ∨ 6 ≤ o.at_ ∨ o.snap < 0 ∨ 3 < o.snap then 2
  else if (o.kind ≠ 3 ∧ o.snap ≠ 0) ∨ (o.kind = 4 ∧ o.at_ ≠ 0) ∨ (o.kind ≠ 1 ∧ o.data.size ≠ 0) then 4
  else if 8 < o.data.size then 1 else 0
def doIt (v : Volume) (o : Op) : Volume × Reply :=
  if o.kind = 1 ∨ o.kind = 2 then (⟨v.now.set o.at_.toNat o.data, v.snaps⟩, reply0)
  else if o.kind = 4 then
    if v.snaps.length = 3 then (v, { reply0 with code := 7 }) else (⟨v.now, v.snaps ++ [v.now]⟩, { reply0 with n := v.snaps.length + 1 })
  else if o.snap = 0 then (v, { reply0 with data := v.now.getD o.at_.toNat str0 })
  else if (v.snaps.length : Int) < o.snap then (v, { reply0 with code := 6 })
  else (v, { reply0 with data := (v.snaps.getD (o.snap - 1).toNat []).getD o.at_.toNat str0 })
def volDo (v : Volume) (o : Op) : Volume × Reply × Int :=
  if volFault v ≠ 0 then (vol0, reply0, volFault v)
  else if opFault o ≠ 0 then (vol0, reply0, opFault o)
  else ((doIt v o).1, (doIt v o).2, 0)

/- machine -/
def reqFault (r : Request) : Int := if r.client < 1 ∨ 4 < r.client ∨ r.num < 1 ∨ 1048576 < r.num then 2 else opFault r.op
def reqBytes (r : Request) : Str := ⟨#[b8 r.client, b8 r.op.kind, b8 r.op.at_, b8 r.op.snap]⟩ ++ numBytes r.num ++ textBytes r.op.data
def encode (r : Request) : Str × Int := if reqFault r ≠ 0 then (str0, reqFault r) else (reqBytes r, 0)
def decode (s : Str) : Request × Int :=
  if 40 < s.size then (req0, 1)
  else if s.size < 4 then (req0, 5)
  else
    let a := readNumber (dropS s 4)
    if a.2.2 ≠ 0 then (req0, a.2.2) else
    let b := readText a.2.1
    if b.2.2 ≠ 0 then (req0, b.2.2) else
    if b.2.1 ≠ str0 then (req0, 4) else
    let r : Request := ⟨byteAt s 0, a.1, ⟨byteAt s 1, byteAt s 2, byteAt s 3, b.1⟩⟩
    if reqFault r ≠ 0 then (req0, reqFault r) else (r, 0)
def stateNew : State := ⟨volNew, List.replicate 4 last0⟩
def lastsOk (l : List Last) : Bool := l.length == 4 && l.all fun x => decide (0 ≤ x.num) && decide (x.num ≤ 1048576)
def stateFault (s : State) : Int := if lastsOk s.lasts then volFault s.volume else 8
def applyIt (s : State) (r : Request) : State :=
  if r.num ≤ (s.lasts.getD (r.client - 1).toNat last0).num then s
  else ⟨(doIt s.volume r.op).1, s.lasts.set (r.client - 1).toNat ⟨r.num, (doIt s.volume r.op).2⟩⟩
def apply (s : State) (e : Str) : State × Int :=
  if stateFault s ≠ 0 then (state0, stateFault s)
  else if (decode e).2 ≠ 0 then (state0, (decode e).2)
  else (applyIt s (decode e).1, 0)
def playFrom (s : State) : List Str → State × Int
  | [] => (s, 0)
  | e :: l => if (apply s e).2 ≠ 0 then (state0, (apply s e).2) else playFrom (apply s e).1 l
def play (l : List Str) : State × Int := playFrom stateNew l

/- stage -/
def logFault : List Str → Int
  | [] => 0
  | e :: l => if (decode e).2 ≠ 0 then (decode e).2 else logFault l
def keptFault (k : Kept) : Int :=
  if k.view < 0 ∨ 1048576 < k.view ∨ k.normal < 0 ∨ k.view < k.normal ∨ (k.calm = true ∧ k.normal ≠ k.view) then 2
  else if 60 < k.log.length then 1
  else if k.commit < 0 ∨ (k.log.length : Int) < k.commit then 2
  else logFault k.log
def catS : List Str → Str
  | [] => str0
  | s :: l => s ++ catS l
def keptBody (k : Kept) (gen : Int) : Str :=
  numBytes gen ++ numBytes k.view ++ numBytes k.normal ++ numBytes (if k.calm then 1 else 0) ++ numBytes k.commit ++ numBytes k.log.length ++ catS (k.log.map textBytes)
def keptBytes (k : Kept) (gen : Int) : Str := sealS (keptBody k gen) ++ keptBody k gen
def stageEncode (k : Kept) (gen : Int) : Str × Int :=
  if keptFault k ≠ 0 then (str0, keptFault k)
  else if gen < 0 ∨ 1073741824 < gen then (str0, 2)
  else (keptBytes k gen, 0)
def readNumbers : Nat → Str → List Int × Str × Int
  | 0, s => ([], s, 0)
  | n + 1, s =>
    let a := readNumber s
    if a.2.2 ≠ 0 then ([], str0, a.2.2) else
    let b := readNumbers n a.2.1
    if b.2.2 ≠ 0 then ([], str0, b.2.2) else (a.1 :: b.1, b.2.1, 0)
def readTexts : Nat → Str → List Str × Str × Int
  | 0, s => ([], s, 0)
  | n + 1, s =>
    let a := readText s
    if a.2.2 ≠ 0 then ([], str0, a.2.2) else
    let b := readTexts n a.2.1
    if b.2.2 ≠ 0 then ([], str0, b.2.2) else (a.1 :: b.1, b.2.1, 0)
def stageDecode (s : Str) : Kept × Int × Int :=
  if 4000 < s.size then (kept0, 0, 1)
  else if s.size < 4 then (kept0, 0, 5)
  else if sealS (dropS s 4) ≠ s.extract 0 4 then (kept0, 0, 11)
  else
    let a := readNumbers 6 (dropS s 4)
    if a.2.2 ≠ 0 then (kept0, 0, a.2.2) else
    let l := a.1
    if 1 < l.getD 3 0 ∨ 60 < l.getD 5 0 then (kept0, 0, 4) else
    let b := readTexts (l.getD 5 0).toNat a.2.1
    if b.2.2 ≠ 0 then (kept0, 0, b.2.2) else
    if b.2.1 ≠ str0 then (kept0, 0, 4) else
    let k : Kept := ⟨l.getD 1 0, l.getD 2 0, l.getD 3 0 == 1, b.1, l.getD 4 0⟩
    if keptFault k ≠ 0 then (kept0, 0, keptFault k) else (k, l.getD 0 0, 0)
def keptNew : Kept := { kept0 with calm := true }
def stageNew : List Str := [keptBytes keptNew 0, str0]
def load (l : List Str) : Kept × Int × Int × Int :=
  if l.length ≠ 2 then (kept0, 0, 0, 4) else
  let a := stageDecode (l.getD 0 str0)
  let b := stageDecode (l.getD 1 str0)
  if a.2.2 ≠ 0 ∧ b.2.2 ≠ 0 then (kept0, 0, 0, 13)
  else if a.2.2 ≠ 0 ∨ (b.2.2 = 0 ∧ a.2.1 < b.2.1) then (b.1, b.2.1, 1, 0)
  else (a.1, a.2.1, 0, 0)
def upTo (s : Str) (n : Int) : Str := if 0 ≤ n ∧ n < s.size then s.extract 0 n.toNat else s
def store (l : List Str) (k : Kept) (upto : Int) : List Str × Int :=
  let a := load l
  if a.2.2.2 ≠ 0 then ([], a.2.2.2)
  else if a.2.1 = 1073741824 then ([], 7)
  else if keptFault k ≠ 0 then ([], keptFault k)
  else if upto < -1 then ([], 2)
  else (l.set (1 - a.2.2.1).toNat (upTo (keptBytes k (a.2.1 + 1)) upto), 0)

/- replica -/
def repNew (me : Int) (k : Kept) : Replica × Int :=
  if me < 0 ∨ 3 ≤ me then (replica0, 2)
  else if keptFault k ≠ 0 then (replica0, keptFault k)
  else (⟨me, k, [0, 0, 0], [false, false, false], [kept0, kept0, kept0], [false, false, false]⟩, 0)
def repFault (r : Replica) : Int :=
  if r.me < 0 ∨ 3 ≤ r.me then 2
  else if r.have_.length ≠ 3 ∨ r.wants.length ≠ 3 ∨ r.gives.length ≠ 3 ∨ r.given.length ≠ 3 then 8
  else if r.have_.any (fun h => decide (h < 0) || decide ((r.kept.log.length : Int) < h)) || r.gives.any (fun g => decide (keptFault g ≠ 0)) then 8
  else keptFault r.kept
def leader (view : Int) : Int := view % 3
def leads (r : Replica) : Bool := r.kept.calm && decide (leader r.kept.view = r.me)
def msgFault (m : Message) : Int :=
  if m.kind < 1 ∨ 4 < m.kind then 3
  else if m.from_ < 0 ∨ 3 ≤ m.from_ ∨ m.tq < 0 ∨ 3 ≤ m.tq ∨ m.from_ = m.tq ∨ m.view < 0 ∨ 1048576 < m.view ∨ m.n < 0 ∨ 60 < m.n then 2
  else if (m.kind ≠ 4 ∧ m.normal ≠ 0) ∨ (m.kind ≠ 2 ∧ m.n ≠ 0) ∨ ((m.kind = 2 ∨ m.kind = 3) ∧ (m.commit ≠ 0 ∨ m.log ≠ [])) then 4
  else if (m.kind = 1 ∧ m.from_ ≠ leader m.view) ∨ ((m.kind = 2 ∨ m.kind = 4) ∧ m.tq ≠ leader m.view) then 4
  else keptFault ⟨m.view, m.normal, false, m.log, m.commit⟩
def toAll (me view : Int) (m : Message) : List Message :=
  ([0, 1, 2].filter fun i => decide (i ≠ me)).map fun i => { m with from_ := me, tq := i, view := view }
def fresh (r : Replica) : Replica :=
  { r with have_ := [0, 0, 0], wants := [false, false, false], gives := [kept0, kept0, kept0], given := [false, false, false] }
def leadOn (r : Replica) : List Message := toAll r.me r.kept.view { msg0 with kind := 1, commit := r.kept.commit, log := r.kept.log }
def want (r : Replica) (view : Int) : Replica × List Message :=
  let r1 := fresh { r with kept := { r.kept with view := view, calm := false } }
  let r2 := { r1 with wants := r1.wants.set r.me.toNat true }
  (r2, toAll r.me view { msg0 with kind := 3 })
def own (k : Kept) : Kept := { k with calm := false }
def better (a b : Kept) : Bool := decide (b.normal < a.normal) || (decide (a.normal = b.normal) && decide (b.log.length < a.log.length))
def bestOf (l : List (Kept × Bool)) : Kept := l.foldl (fun b g => if g.2 && better g.1 b then g.1 else b) { kept0 with normal := -1 }
def maxCommit (l : List (Kept × Bool)) : Int := l.foldl (fun c g => if g.2 then max c g.1.commit else c) 0
def begun (r : Replica) : Replica × List Message :=
  if r.given.getD r.me.toNat false = false then (r, [])
  else if r.given.countP id < 2 then (r, [])
  else
    let l := r.gives.zip r.given
    let b := bestOf l
    let r1 := fresh { r with kept := ⟨r.kept.view, r.kept.view, true, b.log, min (maxCommit l) b.log.length⟩ }
    (r1, leadOn r1)
def give1 (r : Replica) (i : Int) (k : Kept) : Replica :=
  { r with gives := r.gives.set i.toNat (own k), given := r.given.set i.toNat true }
def take1 (r : Replica) (i : Int) (k : Kept) : Replica × List Message := begun (give1 r i k)
def hearLead (r : Replica) (m : Message) : Replica × List Message :=
  let k := r.kept
  let r1 :=
    if k.view < m.view ∨ k.calm = false then
      fresh { r with kept := ⟨m.view, m.view, true, m.log, max m.commit (min k.commit m.log.length)⟩ }
    else if k.log.length < m.log.length then { r with kept := { k with log := m.log } } else r
  let r2 := { r1 with kept := { r1.kept with commit := max r1.kept.commit (min m.commit r1.kept.log.length) } }
  (r2, [{ msg0 with kind := 2, from_ := r.me, tq := m.from_, view := r2.kept.view, n := r2.kept.log.length }])
def hearHas (r : Replica) (m : Message) : Replica × List Message :=
  if m.view ≠ r.kept.view ∨ leads r = false then (r, [])
  else
    let n := min m.n r.kept.log.length
    let r1 := { r with have_ := r.have_.set m.from_.toNat (max (r.have_.getD m.from_.toNat 0) n) }
    if r.kept.commit < n then
      let r2 := { r1 with kept := { r.kept with commit := n } }
      (r2, leadOn r2)
    else (r1, [])
def wantIf (r : Replica) (v : Int) : Replica × List Message := if r.kept.view < v then want r v else (r, [])
def hearWant (r : Replica) (m : Message) : Replica × List Message :=
  let a := wantIf r m.view
  if a.1.kept.calm = true ∨ a.1.wants.getD m.from_.toNat false = true then a
  else
    let r1 := { a.1 with wants := a.1.wants.set m.from_.toNat true }
    let tq := leader r1.kept.view
    if tq = r1.me then
      let b := take1 r1 tq r1.kept
      (b.1, a.2 ++ b.2)
    else (r1, a.2 ++ [{ msg0 with kind := 4, from_ := r1.me, tq := tq, view := r1.kept.view, normal := r1.kept.normal, commit := r1.kept.commit, log := r1.kept.log }])
def hearGive (r : Replica) (m : Message) : Replica × List Message :=
  let a := wantIf r m.view
  if a.1.kept.calm = true then a
  else
    let r1 := if a.1.given.getD a.1.me.toNat false = false then give1 a.1 a.1.me a.1.kept else a.1
    let b := take1 r1 m.from_ ⟨m.view, m.normal, false, m.log, m.commit⟩
    (b.1, a.2 ++ b.2)
def hearIt (r : Replica) (m : Message) : Replica × List Message :=
  if m.kind = 1 then hearLead r m else if m.kind = 2 then hearHas r m else if m.kind = 3 then hearWant r m else hearGive r m
def hear (r : Replica) (m : Message) : Replica × List Message × Int :=
  if repFault r ≠ 0 then (replica0, [], repFault r)
  else if msgFault m ≠ 0 then (replica0, [], msgFault m)
  else if m.tq ≠ r.me then (replica0, [], 6)
  else if m.view < r.kept.view then (replica0, [], 9)
  else ((hearIt r m).1, (hearIt r m).2, 0)
def take (r : Replica) (e : Str) : Replica × List Message × Int :=
  if repFault r ≠ 0 then (replica0, [], repFault r)
  else if leads r = false then (replica0, [], 14)
  else if r.kept.log.length = 60 then (replica0, [], 7)
  else if (decode e).2 ≠ 0 then (replica0, [], (decode e).2)
  else
    let r1 := { r with kept := { r.kept with log := r.kept.log ++ [e] } }
    (r1, leadOn r1, 0)
def tick (r : Replica) : Replica × List Message × Int :=
  if repFault r ≠ 0 then (replica0, [], repFault r)
  else if leads r = true then (r, leadOn r, 0)
  else if r.kept.calm = true then (r, [{ msg0 with kind := 2, from_ := r.me, tq := leader r.kept.view, view := r.kept.view, n := r.kept.log.length }], 0)
  else
    let r1 := { r with wants := r.wants.set r.me.toNat true }
    (r1, toAll r.me r.kept.view { msg0 with kind := 3 }, 0)
def alarm (r : Replica) : Replica × List Message × Int :=
  if repFault r ≠ 0 then (replica0, [], repFault r)
  else if r.kept.view = 1048576 then (replica0, [], 7)
  else ((want r (r.kept.view + 1)).1, (want r (r.kept.view + 1)).2, 0)

/- net -/
structure Net where
  replicas : List Replica
  slots : List (List Str)
  flying : List Message
  clients : List Customer
  told : List Told
deriving DecidableEq

def sendAll (f l : List Message) : List Message := l.foldl (fun f m => if f.length < 80 then f ++ [m] else f) f
def crash (x : Net) (r : Nat) : Net × Int :=
  let a := load (x.slots.getD r [])
  if a.2.2.2 ≠ 0 then (x, a.2.2.2)
  else
    let b := repNew r a.1
    ({ x with replicas := x.replicas.set r b.1 }, b.2)
def settle (x : Net) (r : Nat) (next : Replica) (out : List Message) (upto : Int) : Net × Int :=
  if next.kept = (x.replicas.getD r replica0).kept ∧ upto < 0 then
    ({ x with replicas := x.replicas.set r next, flying := sendAll x.flying out }, 0)
  else
    let a := store (x.slots.getD r []) next.kept upto
    if a.2 ≠ 0 then (x, a.2)
    else
      let y := { x with slots := x.slots.set r a.1 }
      if 0 ≤ upto then crash y r
      else ({ y with replicas := y.replicas.set r next, flying := sendAll y.flying out }, 0)
def actMessage (x : Net) (a : Act) : Net × Int :=
  if a.k < 0 ∨ (x.flying.length : Int) ≤ a.k then (x, 6)
  else
    let m := x.flying.getD a.k.toNat msg0
    if a.kind = 8 then
      if x.flying.length = 80 then (x, 7) else ({ x with flying := x.flying ++ [m] }, 0)
    else if a.kind = 10 ∧ (a.n < 0 ∨ 4000 < a.n) then (x, 2)
    else
      let y := { x with flying := x.flying.eraseIdx a.k.toNat }
      if a.kind = 7 then (y, 0)
      else
        let h := hear (x.replicas.getD m.tq.toNat replica0) m
        if h.2.2 ≠ 0 then (y, h.2.2)
        else settle y m.tq.toNat h.1 h.2.1 (if a.kind = 10 then a.n else -1)
def actAt (x : Net) (a : Act) : Net × Int :=
  if a.r < 0 ∨ 3 ≤ a.r then (x, 6)
  else if a.kind = 9 then crash x a.r.toNat
  else
    let h := if a.kind = 5 then alarm (x.replicas.getD a.r.toNat replica0) else tick (x.replicas.getD a.r.toNat replica0)
    if h.2.2 ≠ 0 then (x, h.2.2)
    else settle x a.r.toNat h.1 h.2.1 (-1)
def cust0 : Customer := ⟨0, 0, req0⟩
def answer (x : Net) (c : Nat) (r : Replica) : Net × Int :=
  let cu := x.clients.getD c cust0
  if leads r = false then (x, 14)
  else
    let s := play (r.kept.log.take r.kept.commit.toNat)
    if s.2 ≠ 0 then (x, s.2)
    else
      let l := s.1.lasts.getD (cu.id - 1).toNat last0
      if l.num ≠ cu.wait.num then (x, 12)
      else ({ x with told := x.told ++ [⟨cu.wait, l.reply⟩], clients := x.clients.set c { cu with wait := req0 } }, 0)
def actBy (x : Net) (a : Act) : Net × Int :=
  if a.c < 0 ∨ (x.clients.length : Int) ≤ a.c then (x, 6)
  else
    let c := x.clients.getD a.c.toNat cust0
    if a.kind = 1 then
      if 0 < c.wait.num then (x, 12)
      else if opFault a.op ≠ 0 then (x, opFault a.op)
      else ({ x with clients := x.clients.set a.c.toNat ⟨c.id, c.next + 1, ⟨c.id, c.next, a.op⟩⟩ }, 0)
    else if c.wait.num = 0 then (x, 9)
    else if a.r < 0 ∨ 3 ≤ a.r then (x, 6)
    else if a.kind = 3 then answer x a.c.toNat (x.replicas.getD a.r.toNat replica0)
    else
      let s := encode c.wait
      if s.2 ≠ 0 then (x, s.2)
      else
        let h := take (x.replicas.getD a.r.toNat replica0) s.1
        if h.2.2 ≠ 0 then (x, h.2.2)
        else settle x a.r.toNat h.1 h.2.1 (-1)
def act (x : Net) (a : Act) : Net × Int :=
  if a.kind = 1 ∨ a.kind = 2 ∨ a.kind = 3 then actBy x a
  else if a.kind = 4 ∨ a.kind = 5 ∨ a.kind = 9 then actAt x a
  else if a.kind = 6 ∨ a.kind = 7 ∨ a.kind = 8 ∨ a.kind = 10 then actMessage x a
  else (x, 3)
def netNew (clients : Nat) : Net :=
  ⟨[(repNew 0 keptNew).1, (repNew 1 keptNew).1, (repNew 2 keptNew).1], [stageNew, stageNew, stageNew], [],
    (List.range clients).map fun c : Nat => ⟨(c : Int) + 1, 1, req0⟩, []⟩
def steps (x : Net) : List Act → Net × List Int
  | [] => (x, [])
  | a :: l => ((steps (act x a).1 l).1, (act x a).2 :: (steps (act x a).1 l).2)
def outcome0 : Outcome := ⟨[], [], [], [], [], []⟩
def run (clients : Int) (l : List Act) : Outcome × Int :=
  if clients < 1 ∨ 4 < clients then (outcome0, 2)
  else if 300 < l.length then (outcome0, 1)
  else
    let s := steps (netNew clients.toNat) l
    (⟨s.1.replicas, s.1.slots, s.1.flying, s.1.clients, s.1.told, s.2⟩, 0)

end Scu
/- Small laws for the walks: bytes made into a string; what a world keeps. -/
namespace Go.Proofs.Ytlaibljdlpmbfaa
open Go.RowKit

theorem b8_low {n : Int} (h0 : 0 ≤ n) (h1 : n < 256) : UInt8.ofNat n.toNat = Scu.b8 n := by
  unfold Scu.b8
  rw [Int.emod_eq_of_lt h0 h1]
theorem b8_mod (n : Int) : UInt8.ofNat (n % 256).toNat = Scu.b8 n := rfl

theorem ret_pair {a b c d : Value} (h : a = c) (k : b = d) : Ending.returned (.tuple #[a, b]) = Ending.returned (.tuple #[c, d]) := by rw [h, k]
theorem ret_val {a b : Value} (h : a = b) : Ending.returned a = Ending.returned b := by rw [h]
theorem str_eq {a b : ByteArray} (h : a = b) : Value.string a = Value.string b := by rw [h]
theorem int_eq {k : IntKind} {a b : Int} (h : a = b) : Value.int k a = Value.int k b := by rw [h]
theorem bool_eq {a b : Bool} (h : a = b) : Value.bool a = Value.bool b := by rw [h]

/- bytes of a text -/
theorem byteAt_get (s : ByteArray) (i : Nat) (h : i < s.size) : ((s[i]'h).toNat : Int) = Scu.byteAt s i := by
  unfold Scu.byteAt
  have h' : i < s.data.toList.length := by simpa using h
  rw [List.getD_eq_getElem?_getD, List.getElem?_eq_getElem h']
  rfl
theorem byteAt_rng (s : ByteArray) (i : Nat) : 0 ≤ Scu.byteAt s i ∧ Scu.byteAt s i < 256 := by
  unfold Scu.byteAt
  have := (s.data.toList.getD i 0).toNat_lt
  omega
theorem ofInt_i64 (a : Nat) (ha : a < 9223372036854775808) : (BitVec.ofInt 64 (a : Int)).toNat = a := by
  rw [BitVec.ofInt_natCast, BitVec.toNat_ofNat]; exact Nat.mod_eq_of_lt (by omega)
theorem i64_or_nat (a b : Nat) (ha : a < 9223372036854775808) (hb : b < 9223372036854775808) : bits .or .i64 (a : Int) (b : Int) = ((a ||| b : Nat) : Int) := by
  have hx : a ||| b < 2 ^ 63 := Nat.or_lt_two_pow (by omega) (by omega)
  show IntKind.i64.wrap ((BitVec.ofInt 64 (a : Int) ||| BitVec.ofInt 64 (b : Int)).toNat : Int) = _
  rw [BitVec.toNat_or, ofInt_i64 a ha, ofInt_i64 b hb, IntKind.wrap_i64]
  omega
/-- 'x | y' where y lies below the bits of x -/
theorem i64_or_sum (k : Nat) (hk : k ≤ 32) (a y : Int) (ha : 0 ≤ a) (hx : a * (2 ^ k : Nat) < 9223372036854775808) (hy : 0 ≤ y) (hyk : y < (2 ^ k : Nat)) :
    bits .or .i64 (a * (2 ^ k : Nat)) y = a * (2 ^ k : Nat) + y := by
  obtain ⟨n, rfl⟩ := Int.eq_ofNat_of_zero_le ha
  obtain ⟨m, rfl⟩ := Int.eq_ofNat_of_zero_le hy
  have hm : m < 2 ^ k := by omega
  have e : ((n : Int) * (2 ^ k : Nat)) = ((n * 2 ^ k : Nat) : Int) := by push_cast; rfl
  rw [e] at hx ⊢
  have h1 : n * 2 ^ k < 9223372036854775808 := by omega
  have hs := Nat.shiftLeft_add_eq_or_of_lt hm n
  rw [Nat.shiftLeft_eq] at hs
  have hp : 2 ^ k ≤ 2 ^ 32 := Nat.pow_le_pow_right (by omega) hk
  rw [i64_or_nat _ _ h1 (by omega), ← hs]
  push_cast
  rfl
theorem i64_or8 (a y : Int) (ha : 0 ≤ a) (hx : a < 16777216) (hy : 0 ≤ y) (hyk : y < 256) : bits .or .i64 (a * 256) y = a * 256 + y :=
  i64_or_sum 8 (by omega) a y ha (by omega) hy (by omega)
theorem i64_or16 (a y : Int) (ha : 0 ≤ a) (hx : a < 16777216) (hy : 0 ≤ y) (hyk : y < 65536) : bits .or .i64 (a * 65536) y = a * 65536 + y :=
  i64_or_sum 16 (by omega) a y ha (by omega) hy (by omega)
theorem i64_or24 (a y : Int) (ha : 0 ≤ a) (hx : a < 16777216) (hy : 0 ≤ y) (hyk : y < 16777216) : bits .or .i64 (a * 16777216) y = a * 16777216 + y :=
  i64_or_sum 24 (by omega) a y ha (by omega) hy (by omega)
theorem or_bytes3 (a b : Int) (ha : 0 ≤ a) (ha' : a < 256) (hb : 0 ≤ b) (hb' : b < 256) : bits .or .i64 (a * 16777216) (b * 65536) = a * 16777216 + b * 65536 :=
  i64_or24 a _ ha (by omega) (by omega) (by omega)
theorem or_bytes2 (a b c : Int) (ha : 0 ≤ a) (ha' : a < 256) (hb : 0 ≤ b) (hb' : b < 256) (hc : 0 ≤ c) (hc' : c < 256) :
    bits .or .i64 (a * 16777216 + b * 65536) (c * 256) = a * 16777216 + b * 65536 + c * 256 := by
  have := i64_or16 (a * 256 + b) (c * 256) (by omega) (by omega) (by omega) (by omega)
  rw [show (a * 256 + b) * 65536 = a * 16777216 + b * 65536 by omega] at this
  exact this
theorem or_bytes1 (a b c d : Int) (ha : 0 ≤ a) (ha' : a < 256) (hb : 0 ≤ b) (hb' : b < 256) (hc : 0 ≤ c) (hc' : c < 256) (hd : 0 ≤ d) (hd' : d < 256) :
    bits .or .i64 (a * 16777216 + b * 65536 + c * 256) d = a * 16777216 + b * 65536 + c * 256 + d := by
  have := i64_or8 (a * 65536 + b * 256 + c) d (by omega) (by omega) (by omega) (by omega)
  rw [show (a * 65536 + b * 256 + c) * 256 = a * 16777216 + b * 65536 + c * 256 by omega] at this
  exact this
end Go.Proofs.Ytlaibljdlpmbfaa
/- Words for memory: rows that are read, texts among them. -/
namespace Go.Proofs.Ytlaibljdlpmbfaa
open Go.RowKit

def R47 : Nat := 140737488351232

/-- From 'A' on stand the cells 'cs': in a block below B, or in one whose elements are of the type t. -/
def Rd (w : World) (B : Nat) (t : TypeId) (A : Option Addr) (cs : List Value) : Prop :=
  cs = [] ∨ ∃ g o, A = some ⟨g, o, none⟩ ∧ g < w.heap.size ∧ (g < B ∨ ∃ C fz, w.heap[g]? = some (.cells C t fz)) ∧ ∀ (j : Nat) (u : Value), cs[j]? = some u → w.cell? ⟨g, o + j, none⟩ = some u

section
variable {w w' : World} {B B' : Nat} {t : TypeId} {A : Option Addr} {cs : List Value}
theorem Rd.nil : Rd w B t A [] := .inl rfl
theorem Rd.get {k : Nat} {u : Value} (h : Rd w B t A cs) (hk : cs[k]? = some u) : ∃ g o, A = some ⟨g, o, none⟩ ∧ g < w.heap.size ∧ w.cell? ⟨g, o + k, none⟩ = some u := by
  rcases h with rfl | ⟨g, o, h1, h2, _, h4⟩
  · simp at hk
  · exact ⟨g, o, h1, h2, h4 k u hk⟩
/-- What stays as it was keeps the row. -/
theorem Rd.keep (h : Rd w B t A cs) (hs : w.heap.size ≤ w'.heap.size) (hk : ∀ g, g < w.heap.size → (g < B ∨ ∃ C fz, w.heap[g]? = some (.cells C t fz)) → w'.heap[g]? = w.heap[g]?) : Rd w' B t A cs := by
  rcases h with h | ⟨g, o, h1, h2, h3, h4⟩
  · exact .inl h
  · have e := hk g h2 h3
    refine .inr ⟨g, o, h1, by omega, ?_, fun j u hj => ?_⟩
    · rw [e]; exact h3
    · rw [World.cell?_of_block (w := w) (w' := w') (a := ⟨g, o + j, none⟩) e]; exact h4 j u hj
theorem Rd.below (h : Rd w B t A cs) (hb : Below w.heap.size w w') : Rd w' B t A cs := h.keep hb.size fun g hg _ => hb.block g hg
theorem Rd.drew (h : Rd w B t A cs) : Rd w.drew B t A cs := h
theorem Rd.drewN (h : Rd w B t A cs) (n : Nat) : Rd (w.drewN n) B t A cs := h
theorem Rd.alloc (h : Rd w B t A cs) (o : Obj) : Rd (w.alloc o) B t A cs := h.keep (by simp) fun g hg _ => Below.heap_alloc w o g hg
theorem Rd.mono (h : Rd w B t A cs) (hB : B ≤ B') : Rd w B' t A cs := by
  rcases h with h | ⟨g, o, h1, h2, h3, h4⟩
  · exact .inl h
  · exact .inr ⟨g, o, h1, h2, h3.imp (by omega) id, h4⟩
/-- A store into another block, of another type. -/
theorem Rd.setCell (h : Rd w B t A cs) {p : Addr} {C : Array Value} {t' : TypeId} {fz : Nat × Nat} (hp : w.heap[p.block]? = some (.cells C t' fz)) (hB : B ≤ p.block) (ht : t' ≠ t) (u : Value) : Rd (w.setCell p u) B t A cs :=
  h.keep (by simp [World.setCell]) fun g hg hk => Below.heap_setCell w p u g (by
    rintro rfl
    rcases hk with hk | ⟨C', fz', hk⟩
    · omega
    · rw [hp] at hk
      cases hk
      exact ht rfl)
/-- Behind an append onto a row of another type. -/
theorem Rd.grown (h : Rd w B t A cs) {row : Option Nat} (hg : w.grownBy w' row) (hr : ∀ g, row = some g → B ≤ g ∧ ∀ C fz, w.heap[g]? ≠ some (.cells C t fz)) : Rd w' B t A cs :=
  h.keep hg.size fun g hlt hk => hg.block g hlt fun e => by
    obtain ⟨h1, h2⟩ := hr g e.symm
    rcases hk with hk | ⟨C, fz, hk⟩
    · omega
    · exact h2 C fz hk
theorem Rd.take (h : Rd w B t A cs) (n : Nat) : Rd w B t A (cs.take n) := by
  rcases h with h | ⟨g, o, h1, h2, h3, h4⟩
  · subst h; exact .inl (by simp)
  · exact .inr ⟨g, o, h1, h2, h3, fun j u hj => h4 j u (by
      have : j < n := by
        rcases Nat.lt_or_ge j n with h | h
        · exact h
        · rw [List.getElem?_eq_none (by rw [List.length_take]; omega)] at hj; cases hj
      rwa [List.getElem?_take_of_lt this] at hj)⟩
end

/-- A block that is known whole. -/
def Blk (w : World) (g : Nat) (t : TypeId) (cs : Array Value) : Prop := w.heap[g]? = some (.cells cs t (0, 0))
section
variable {w w' : World} {g : Nat} {t : TypeId} {cs : Array Value}
theorem Blk.lt (h : Blk w g t cs) : g < w.heap.size := by
  rcases Nat.lt_or_ge g w.heap.size with hlt | hge
  · exact hlt
  · unfold Blk at h; rw [Array.getElem?_eq_none hge] at h; cases h
theorem Blk.cell (h : Blk w g t cs) (i : Nat) : w.cell? ⟨g, i, none⟩ = cs[i]? := by
  unfold Blk at h
  simp [World.cell?, h]
theorem Blk.frozen (h : Blk w g t cs) (i : Nat) : w.frozen? ⟨g, i, none⟩ = false := by
  unfold Blk at h
  simp [World.frozen?, h]
theorem Blk.new (w : World) (t : TypeId) (cs : Array Value) : Blk (w.alloc (.cells cs t)) w.heap.size t cs := by
  show (w.heap.push _)[w.heap.size]? = _
  simp
theorem Blk.new' {w : World} {g : Nat} {t : TypeId} {cs : Array Value} (h : g = w.heap.size) : Blk (w.alloc (.cells cs t)) g t cs := by subst h; exact Blk.new w t cs
theorem Blk.drew (h : Blk w g t cs) : Blk w.drew g t cs := h
theorem Blk.drewN (h : Blk w g t cs) (n : Nat) : Blk (w.drewN n) g t cs := h
theorem Blk.alloc (h : Blk w g t cs) (o : Obj) : Blk (w.alloc o) g t cs := (Below.heap_alloc w o g h.lt).trans h
theorem Blk.far (h : Blk w g t cs) {p : Addr} (hp : g ≠ p.block) (u : Value) : Blk (w.setCell p u) g t cs := (Below.heap_setCell w p u g hp).trans h
theorem Blk.below {B : Nat} (h : Blk w g t cs) (hb : Below B w w') (hg : g < B) : Blk w' g t cs := (hb.block g hg).trans h
theorem Blk.set_ (h : Blk w g t cs) (i : Nat) (u : Value) : Blk (w.setCell ⟨g, i, none⟩ u) g t (cs.setIfInBounds i u) := by
  unfold Blk at h ⊢
  simp [World.setCell, Array.getElem?_modify, h]
theorem Blk.same (h : Blk w g t cs) (hb : Below w.heap.size w w') : Blk w' g t cs := h.below hb h.lt
end

theorem bcell {W w1 : World} {B : Nat} (hb : Below B W w1) : (∀ b o, b < B → w1.cell? ⟨b, o, none⟩ = W.cell? ⟨b, o, none⟩) ∧ (∀ b o, b < B → w1.frozen? ⟨b, o, none⟩ = W.frozen? ⟨b, o, none⟩) :=
  ⟨fun b o h => hb.cell (p := ⟨b, o, none⟩) h, fun b o h => hb.frozen (p := ⟨b, o, none⟩) h⟩
theorem below_box {w w' : World} {o : Obj} (h : Below (w.alloc o).heap.size (w.alloc o) w') : Below w.heap.size w w' :=
  ((Below.refl _ _).alloc (Nat.le_refl _) _).trans (h.mono (by simp))

theorem box_lt {w w' : World} {o : Obj} (h : Below (w.alloc o).heap.size (w.alloc o) w') : w.heap.size < w'.heap.size := by
  have := h.size
  simp at this
  omega
/-- A quiet call behind draws. -/
theorem quiet_at {P : Program} {f : FuncId} {args : Array Value} {w : World} {a : Nat} {v : Value}
    (h : Calls P f args (w.drewN a) fun e w' => e = .returned v ∧ ∃ m, w' = (w.drewN a).drewN m) :
    Calls P f args (w.drewN a) fun e w'' => e = .returned v ∧ ∃ m, w'' = w.drewN m :=
  h.mono fun _ _ ⟨he, m, hm⟩ => ⟨he, a + m, by rw [hm, World.drewN_drewN]⟩
theorem quiet_add {P : Program} {f : FuncId} {args : Array Value} {w : World} {a n : Nat} {v : Value}
    (h : Calls P f args (w.drewN (a + n)) fun e w' => e = .returned v ∧ ∃ m, w' = (w.drewN (a + n)).drewN m) :
    Calls P f args (w.drewN (a + n)) fun e w'' => e = .returned v ∧ ∃ m, w'' = w.drewN (a + m) :=
  h.mono fun _ _ ⟨he, m, hm⟩ => ⟨he, n + m, by rw [hm, World.drewN_drewN, Nat.add_assoc]⟩

/- texts -/
structure IsStrs (w : World) (B : Nat) (v : Value) (xs : List Scu.Str) : Prop where
  ex : ∃ A c, v = .slice A xs.length c ∧ xs.length ≤ c ∧ Rd w B 9 A (xs.map Value.string)
  len : xs.length * 16 ≤ R47
  each : ∀ s ∈ xs, s.size ≤ R47

section
variable {w w' : World} {B B' : Nat} {v : Value} {xs : List Scu.Str}
theorem IsStrs.below (h : IsStrs w B v xs) (hb : Below w.heap.size w w') : IsStrs w' B v xs := ⟨let ⟨A, c, h1, h2, h3⟩ := h.ex; ⟨A, c, h1, h2, h3.below hb⟩, h.len, h.each⟩
theorem IsStrs.drewN (h : IsStrs w B v xs) (n : Nat) : IsStrs (w.drewN n) B v xs := ⟨h.ex, h.len, h.each⟩
theorem IsStrs.alloc (h : IsStrs w B v xs) (o : Obj) : IsStrs (w.alloc o) B v xs := ⟨let ⟨A, c, h1, h2, h3⟩ := h.ex; ⟨A, c, h1, h2, h3.alloc o⟩, h.len, h.each⟩
theorem IsStrs.mono (h : IsStrs w B v xs) (hB : B ≤ B') : IsStrs w B' v xs := ⟨let ⟨A, c, h1, h2, h3⟩ := h.ex; ⟨A, c, h1, h2, h3.mono hB⟩, h.len, h.each⟩
theorem IsStrs.keep (h : IsStrs w B v xs) (hs : w.heap.size ≤ w'.heap.size) (hk : ∀ g, g < w.heap.size → (g < B ∨ ∃ C fz, w.heap[g]? = some (.cells C 9 fz)) → w'.heap[g]? = w.heap[g]?) : IsStrs w' B v xs :=
  ⟨let ⟨A, c, h1, h2, h3⟩ := h.ex; ⟨A, c, h1, h2, h3.keep hs hk⟩, h.len, h.each⟩
theorem IsStrs.nil_ : IsStrs w B (.slice none 0 0) [] := ⟨⟨none, 0, rfl, Nat.le_refl _, Rd.nil⟩, by simp [R47], fun s hs => by cases hs⟩
end
theorem str_get {w : World} {B : Nat} {A : Option Addr} {xs : List Scu.Str} {k : Nat} (h : Rd w B 9 A (xs.map Value.string)) (hk : k < xs.length) :
    ∃ g o, A = some ⟨g, o, none⟩ ∧ g < w.heap.size ∧ w.cell? ⟨g, o + k, none⟩ = some (.string xs[k]) :=
  h.get (by simp [hk])
theorem take_succ_eq {α : Type} [DecidableEq α] {xs ys : List α} {k : Nat} (h : xs.take k = ys.take k) (hx : k < xs.length) (hy : k < ys.length) (he : xs[k] = ys[k]) : xs.take (k + 1) = ys.take (k + 1) := by
  rw [List.take_succ_eq_append_getElem hx, List.take_succ_eq_append_getElem hy, h, he]
end Go.Proofs.Ytlaibljdlpmbfaa
/- Walks: the laws' own comparisons. -/
namespace Go.Proofs.Ytlaibljdlpmbfaa
open Go.RowKit
set_option maxHeartbeats 400000
set_option maxRecDepth 100000
theorem str_beq (a b : ByteArray) : (a.toList == b.toList) = decide (a = b) := by
  rw [ByteArray.toList_eq, ByteArray.toList_eq, Bool.eq_iff_iff, beq_iff_eq, decide_eq_true_eq]
  exact ⟨fun e => ByteArray.ext (Array.toList_inj.1 e), fun e => by rw [e]⟩

theorem sameTexts_c (v u : Value) (xs ys : List Scu.Str) (w : World) (B B' : Nat) (hv : IsStrs w B v xs) (hu : IsStrs w B' u ys) :
    Calls Try.prog 20 #[v, u] w fun e w' => e = .returned (.bool (decide (xs = ys))) ∧ ∃ n, w' = w.drewN n := by
  obtain ⟨⟨A, c, rfl, _, hr⟩, hl, _⟩ := hv
  obtain ⟨⟨A', c', rfl, _, hr'⟩, hl', _⟩ := hu
  unfold R47 at hl hl'
  by_cases he : xs.length = ys.length
  · have he' : ((xs.length : Int) != (ys.length : Int)) = false := by simp [he]
    have HE := Lib.hid he
    clear he
    go_enter Try.func20, Try.ntmps20
    go_wp2
    go_loopw [5] (fun i wr => ∃ k : Nat, k ≤ xs.length ∧ i = .int .i64 k ∧ Hid (xs.take k = ys.take k) ∧ ∃ n, wr = w.drewN n) (fun i _ => xs.length - (intOf i).toNat)
    case atStart => exact ⟨0, Nat.zero_le _, rfl, rfl, 0, rfl⟩
    case round =>
      obtain ⟨k, hk, rfl, ht, n, rfl⟩ := hrel
      by_cases hlt : k < xs.length
      · have hlt' : (k : Int) < (xs.length : Int) := by omega
        have hy : k < ys.length := by have := HE.out; omega
        have hy' : (k : Int) < (ys.length : Int) := by omega
        obtain ⟨g, o, rfl, _, hc⟩ := str_get hr hlt
        obtain ⟨g', o', rfl, _, hc'⟩ := str_get hr' hy
        by_cases hx : xs[k] = ys[k]
        · have hb : (xs[k].toList == ys[k].toList) = true := by rw [str_beq]; simp [hx]
          have HX := Lib.hid hx
          clear hx
          go_wp2
          go_quiet (fail)
          go_wp2
          exact ⟨⟨k + 1, hlt, by go_num, take_succ_eq ht.out hlt hy HX.out, _, rfl⟩, by simp only [intOf]; omega⟩
        · have hb : (xs[k].toList == ys[k].toList) = false := by rw [str_beq]; simp [hx]
          have hne : decide (xs = ys) = false := by
            rw [decide_eq_false_iff_not]
            intro e
            subst e
            exact hx rfl
          have HNE := Lib.hid hne
          clear hne
          go_wp2
          go_quiet (fail)
          go_wp2
          go_ret
          exact ⟨ret_val (bool_eq HNE.out.symm), _, World.drewN_drewN _ _ _⟩
      · have hkx : k = xs.length := by omega
        have hlt' : (xs.length : Int) ≤ (k : Int) := by omega
        have heq : decide (xs = ys) = true := by
          rw [decide_eq_true_eq]
          have h1 := ht.out
          rw [List.take_of_length_le (by omega), List.take_of_length_le (by have := HE.out; omega)] at h1
          exact h1
        have HEQ := Lib.hid heq
        clear hkx heq
        go_wp2
        go_ret
        exact ⟨ret_val (bool_eq HEQ.out.symm), _, rfl⟩
  · have he' : ((xs.length : Int) != (ys.length : Int)) = true := by
      rw [bne_iff_ne]; omega
    have hne : decide (xs = ys) = false := by
      rw [decide_eq_false_iff_not]
      intro e
      exact he (by rw [e])
    rw [hne]
    clear he
    go_enter Try.func20, Try.ntmps20
    go_wp2
    go_ret
    exact ⟨rfl, 0, rfl⟩

/- volumes -/
structure IsRows (w : World) (B : Nat) (v : Value) (xss : List (List Scu.Str)) : Prop where
  ex : ∃ A c vs, v = .slice A xss.length c ∧ xss.length ≤ c ∧ Rd w B 22 A vs ∧ vs.length = xss.length ∧ ∀ (j : Nat) (u : Value) (x : List Scu.Str), vs[j]? = some u → xss[j]? = some x → IsStrs w B u x
  len : xss.length * 24 ≤ R47
section
variable {w w' : World} {B B' : Nat} {v : Value} {xss : List (List Scu.Str)}
theorem IsRows.keep (h : IsRows w B v xss) (hs : w.heap.size ≤ w'.heap.size) (hk : ∀ g, g < w.heap.size → (g < B ∨ ∃ C fz t, (t = 9 ∨ t = 22) ∧ w.heap[g]? = some (.cells C t fz)) → w'.heap[g]? = w.heap[g]?) : IsRows w' B v xss :=
  ⟨let ⟨A, c, vs, h1, h2, h3, h4, h5⟩ := h.ex
   ⟨A, c, vs, h1, h2, h3.keep hs (fun g hg hh => hk g hg (hh.imp id fun ⟨C, fz, e⟩ => ⟨C, fz, _, .inr rfl, e⟩)), h4, fun j u x a b => (h5 j u x a b).keep hs (fun g hg hh => hk g hg (hh.imp id fun ⟨C, fz, e⟩ => ⟨C, fz, _, .inl rfl, e⟩))⟩, h.len⟩
theorem IsRows.below (h : IsRows w B v xss) (hb : Below w.heap.size w w') : IsRows w' B v xss := h.keep hb.size fun g hg _ => hb.block g hg
theorem IsRows.drewN (h : IsRows w B v xss) (n : Nat) : IsRows (w.drewN n) B v xss := h.keep (Nat.le_refl _) fun _ _ _ => rfl
theorem IsRows.alloc (h : IsRows w B v xss) (o : Obj) : IsRows (w.alloc o) B v xss := h.keep (by simp) fun g hg _ => Below.heap_alloc w o g hg
theorem IsRows.mono (h : IsRows w B v xss) (hB : B ≤ B') : IsRows w B' v xss :=
  ⟨let ⟨A, c, vs, h1, h2, h3, h4, h5⟩ := h.ex; ⟨A, c, vs, h1, h2, h3.mono hB, h4, fun j u x a b => (h5 j u x a b).mono hB⟩, h.len⟩
end
theorem rows_get {w : World} {B : Nat} {A : Option Addr} {vs : List Value} {xss : List (List Scu.Str)} {k : Nat} (h : Rd w B 22 A vs) (hl : vs.length = xss.length)
    (h5 : ∀ (j : Nat) (u : Value) (x : List Scu.Str), vs[j]? = some u → xss[j]? = some x → IsStrs w B u x) (hk : k < xss.length) :
    ∃ g o u, A = some ⟨g, o, none⟩ ∧ g < w.heap.size ∧ w.cell? ⟨g, o + k, none⟩ = some u ∧ IsStrs w B u xss[k] := by
  have hkv : k < vs.length := by omega
  obtain ⟨g, o, h1, h2, h3⟩ := h.get (List.getElem?_eq_getElem hkv)
  exact ⟨g, o, _, h1, h2, h3, h5 k _ _ (List.getElem?_eq_getElem hkv) (List.getElem?_eq_getElem hk)⟩

structure IsVolume (w : World) (B : Nat) (nv sv : Value) (x : Scu.Volume) : Prop where
  now : IsStrs w B nv x.now
  snaps : IsRows w B sv x.snaps
theorem IsVolume.below {w w' : World} {B : Nat} {nv sv : Value} {x : Scu.Volume} (h : IsVolume w B nv sv x) (hb : Below w.heap.size w w') : IsVolume w' B nv sv x := ⟨h.now.below hb, h.snaps.below hb⟩
theorem IsVolume.drewN {w : World} {B : Nat} {nv sv : Value} {x : Scu.Volume} (h : IsVolume w B nv sv x) (n : Nat) : IsVolume (w.drewN n) B nv sv x := ⟨h.now.drewN n, h.snaps.drewN n⟩
theorem IsVolume.alloc {w : World} {B : Nat} {nv sv : Value} {x : Scu.Volume} (h : IsVolume w B nv sv x) (o : Obj) : IsVolume (w.alloc o) B nv sv x := ⟨h.now.alloc o, h.snaps.alloc o⟩

theorem vol_eq {x y : Scu.Volume} (h1 : x.now = y.now) (h2 : x.snaps = y.snaps) : x = y := by
  cases x; cases y; simp_all
end Go.Proofs.Ytlaibljdlpmbfaa
/- How arguments are opened: what their reading says of cells and values. -/
namespace Go.Proofs.Ytlaibljdlpmbfaa
open Go.RowKit Go.ChangeShapes Go.WideShapes Go.ChangeAt
set_option maxRecDepth 100000

def opC (o : Scu.Op) : List Value := [.int .i64 o.kind, .int .i64 o.at_, .int .i64 o.snap, .string o.data]
def vOp (o : Scu.Op) : Value := .agg #[.int .i64 o.kind, .int .i64 o.at_, .int .i64 o.snap, .string o.data]
def vRequest (r : Scu.Request) : Value := .agg #[.int .i64 r.client, .int .i64 r.num, .int .i64 r.op.kind, .int .i64 r.op.at_, .int .i64 r.op.snap, .string r.op.data]

theorem cells_int : Try.prog.cellsOf 3 = 1 := by kernel_rfl
theorem cells_bool : Try.prog.cellsOf 4 = 1 := by kernel_rfl
theorem cells_string : Try.prog.cellsOf 9 = 1 := by kernel_rfl
theorem cells_strs : Try.prog.cellsOf 22 = 1 := by kernel_rfl
theorem cells_op : Try.prog.cellsOf 70 = 4 := by kernel_rfl
theorem cells_request : Try.prog.cellsOf 72 = 6 := by kernel_rfl

section
variable {H : Type} {enc : TypeId × Value → H} {w : World} {base : Nat} {spare : Nat → Bool} {held : Bool} {n : Nat} {cs : List Value} {y : Option (DataW H × List MemPlace)}
theorem some_of {α : Type} {xs : List α} {m : Nat} (h : xs.length = m) {i : Nat} (hi : i < m) : ∃ z, xs[i]? = some z := ⟨_, List.getElem?_eq_getElem (by omega)⟩

theorem trod_op {x : DataW H × List MemPlace} (h : DataW.trod enc Try.prog w base spare held n 70 cs = some x) : ∃ o : Scu.Op, cs = opC o ∧ o.data.size ≤ maxLen := by
  obtain ⟨xs, m, _, _, hl, hxl, hf⟩ := DataW.trod_struct Try.underlying70 h
  rw [cells_op] at hl
  match cs, hl with
  | [c0, c1, c2, c3], _ =>
    obtain ⟨z0, e0⟩ := some_of hxl (i := 0) (by simp)
    obtain ⟨z1, e1⟩ := some_of hxl (i := 1) (by simp)
    obtain ⟨z2, e2⟩ := some_of hxl (i := 2) (by simp)
    obtain ⟨z3, e3⟩ := some_of hxl (i := 3) (by simp)
    obtain ⟨n0, h0, _⟩ := DataW.trod_int Try.underlying3 ((hf 0 _ rfl).trans e0)
    obtain ⟨n1, h1, _⟩ := DataW.trod_int Try.underlying3 ((hf 1 _ rfl).trans e1)
    obtain ⟨n2, h2, _⟩ := DataW.trod_int Try.underlying3 ((hf 2 _ rfl).trans e2)
    obtain ⟨s, h3, _, hs⟩ := DataW.trod_string Try.underlying9 ((hf 3 _ rfl).trans e3)
    simp [cells_int, cells_string] at h0 h1 h2 h3
    subst h0 h1 h2 h3
    exact ⟨⟨n0, n1, n2, s⟩, rfl, hs⟩

theorem trod_request {x : DataW H × List MemPlace} (h : DataW.trod enc Try.prog w base spare held n 72 cs = some x) :
    ∃ r : Scu.Request, cs = .int .i64 r.client :: .int .i64 r.num :: opC r.op := by
  obtain ⟨xs, m, _, _, hl, hxl, hf⟩ := DataW.trod_struct Try.underlying72 h
  rw [cells_request] at hl
  match cs, hl with
  | [c0, c1, c2, c3, c4, c5], _ =>
    obtain ⟨z0, e0⟩ := some_of hxl (i := 0) (by simp)
    obtain ⟨z1, e1⟩ := some_of hxl (i := 1) (by simp)
    obtain ⟨z2, e2⟩ := some_of hxl (i := 2) (by simp)
    obtain ⟨n0, h0, _⟩ := DataW.trod_int Try.underlying3 ((hf 0 _ rfl).trans e0)
    obtain ⟨n1, h1, _⟩ := DataW.trod_int Try.underlying3 ((hf 1 _ rfl).trans e1)
    obtain ⟨o, h2, _⟩ := trod_op ((hf 2 _ rfl).trans e2)
    simp [cells_int, cells_op] at h0 h1 h2
    subst h0 h1
    exact ⟨⟨n0, n1, o⟩, by rw [← h2]⟩
end
section
variable {H : Type} {enc : TypeId × Value → H} {w : World} {base : Nat} {spare : Nat → Bool} {held : Bool} {d : DataW H} {p : List MemPlace} {v : Value} {b0 : Nat}
theorem open_Op (hv : Value.okWide Try.prog w .any b0 70 v) (h : DataW.Trod enc Try.prog w base spare held 70 v d p) : ∃ o, v = vOp o := by
  obtain ⟨cs, rfl, _⟩ := okWide_struct Try.underlying70 hv
  obtain ⟨fuel, hf⟩ := h
  obtain ⟨o, ho, _⟩ := trod_op hf
  refine ⟨o, ?_⟩
  have : cs = (opC o).toArray := by
    apply Array.toList_inj.1
    simpa [Value.cells] using ho
  rw [this]
  rfl
theorem open_Request (hv : Value.okWide Try.prog w .any b0 72 v) (h : DataW.Trod enc Try.prog w base spare held 72 v d p) : ∃ r, v = vRequest r := by
  obtain ⟨cs, rfl, _⟩ := okWide_struct Try.underlying72 hv
  obtain ⟨fuel, hf⟩ := h
  obtain ⟨o, ho⟩ := trod_request hf
  refine ⟨o, ?_⟩
  have : cs = (.int .i64 o.client :: .int .i64 o.num :: opC o.op : List Value).toArray := by
    apply Array.toList_inj.1
    simpa [Value.cells] using ho
  rw [this]
  rfl
end
end Go.Proofs.Ytlaibljdlpmbfaa
/- Words for memory: what clients were told last; states. Walks: their comparison; new ones. -/
namespace Go.Proofs.Ytlaibljdlpmbfaa
open Go.RowKit
set_option maxHeartbeats 400000
set_option maxRecDepth 100000

theorem flat_get {α : Type} (f : α → List Value) (m : Nat) (hf : ∀ x, (f x).length = m) : ∀ (l : List α) (k j : Nat) (hk : k < l.length), j < m → (l.flatMap f)[k * m + j]? = (f l[k])[j]?
  | x :: l, 0, j, _, hj => by
    simp only [List.flatMap_cons, Nat.zero_mul, Nat.zero_add, List.getElem_cons_zero]
    rw [List.getElem?_append_left (by rw [hf]; exact hj)]
  | x :: l, k + 1, j, hk, hj => by
    simp only [List.flatMap_cons, List.getElem_cons_succ]
    rw [List.getElem?_append_right (by rw [hf, Nat.succ_mul]; omega), hf, show (k + 1) * m + j - m = k * m + j from by rw [Nat.succ_mul]; omega]
    exact flat_get f m hf l k j (by simpa using hk) hj
theorem flat_len {α : Type} (f : α → List Value) (m : Nat) (hf : ∀ x, (f x).length = m) (l : List α) : (l.flatMap f).length = l.length * m := by
  induction l with
  | nil => simp
  | cons x l ih => simp only [List.flatMap_cons, List.length_append, hf, ih, List.length_cons, Nat.succ_mul]; omega

def lastC (l : Scu.Last) : List Value := [.int .i64 l.num, .int .i64 l.reply.code, .int .i64 l.reply.n, .string l.reply.data]
section
variable {w w' : World} {B B' : Nat} {v : Value} {ls : List Scu.Last}
end
theorem IsVolume.keep {w w' : World} {B : Nat} {nv sv : Value} {x : Scu.Volume} (h : IsVolume w B nv sv x) (hs : w.heap.size ≤ w'.heap.size)
    (hk : ∀ g, g < w.heap.size → (g < B ∨ ∃ C fz t, (t = 9 ∨ t = 22) ∧ w.heap[g]? = some (.cells C t fz)) → w'.heap[g]? = w.heap[g]?) : IsVolume w' B nv sv x :=
  ⟨h.now.keep hs fun g hg hh => hk g hg (hh.imp id fun ⟨C, fz, e⟩ => ⟨C, fz, _, .inl rfl, e⟩), h.snaps.keep hs hk⟩
/-- A store into a block of another type. -/
theorem IsVolume.set_ {w : World} {B : Nat} {nv sv : Value} {x : Scu.Volume} (h : IsVolume w B nv sv x) {p : Addr} {t' : TypeId} {cs : Array Value} (hp : Blk w p.block t' cs) (hB : B ≤ p.block)
    (h1 : t' ≠ 9) (h2 : t' ≠ 22) (u : Value) : IsVolume (w.setCell p u) B nv sv x :=
  h.keep (by simp [World.setCell]) fun g _ hh => Below.heap_setCell w p u g (by
    rintro rfl
    rcases hh with hh | ⟨C, fz, t, ht, hh⟩
    · omega
    · unfold Blk at hp
      rw [hp] at hh
      cases hh
      rcases ht with ht | ht
      · exact h1 ht
      · exact h2 ht)
/- rows that the call has made -/
theorem strs_blk {w : World} {g : Nat} {xs : List Scu.Str} (h : Blk w g 9 (xs.map Value.string).toArray) (h1 : xs.length * 16 ≤ R47) (h2 : ∀ s ∈ xs, s.size ≤ R47) :
    IsStrs w 0 (.slice (some ⟨g, 0, none⟩) xs.length xs.length) xs :=
  ⟨⟨_, _, rfl, Nat.le_refl _, .inr ⟨g, 0, rfl, h.lt, .inr ⟨_, _, h⟩, fun j u hj => by
    rw [h.cell]
    simpa using hj⟩⟩, h1, h2⟩
theorem make6 (w : World) : (Instr.makeSlice 22 (.int .i64 6) (.int .i64 6)).run Try.prog w =
    .ok (.slice (some ⟨w.heap.size, 0, none⟩) 6 6) (w.alloc (.cells #[.string ⟨#[]⟩, .string ⟨#[]⟩, .string ⟨#[]⟩, .string ⟨#[]⟩, .string ⟨#[]⟩, .string ⟨#[]⟩] 9)) := by kernel_rfl
theorem rows_nil {w : World} {B : Nat} : IsRows w B (.slice none 0 0) [] :=
  ⟨⟨none, 0, [], rfl, Nat.le_refl _, Rd.nil, rfl, fun j u x h => by simp at h⟩, by simp [R47]⟩
def Got {α : Type} (P : α → World → Ending → Prop) (e : Ending) (w : World) : Prop := ∃ x, P x w e
theorem volNew_isv {w : World} {g : Nat} (h : Blk w g 9 #[.string ⟨#[]⟩, .string ⟨#[]⟩, .string ⟨#[]⟩, .string ⟨#[]⟩, .string ⟨#[]⟩, .string ⟨#[]⟩]) :
    IsVolume w 0 (.slice (some ⟨g, 0, none⟩) 6 6) (.slice none 0 0) Scu.volNew :=
  ⟨strs_blk (xs := List.replicate 6 Scu.str0) h (by simp [R47]) (fun s hs => by rw [List.eq_of_mem_replicate hs]; exact Nat.zero_le _), rows_nil⟩
theorem IsStrs.form {w : World} {B : Nat} {v : Value} {xs : List Scu.Str} (h : IsStrs w B v xs) : ∃ A n c, v = .slice A n c := by
  obtain ⟨A, c, e, _⟩ := h.ex
  exact ⟨A, _, c, e⟩
theorem IsRows.form {w : World} {B : Nat} {v : Value} {xs : List (List Scu.Str)} (h : IsRows w B v xs) : ∃ A n c, v = .slice A n c := by
  obtain ⟨A, c, vs, e, _⟩ := h.ex
  exact ⟨A, _, c, e⟩
end Go.Proofs.Ytlaibljdlpmbfaa
/- Walks: may a volume be? The program's and the reference's. -/
namespace Go.Proofs.Ytlaibljdlpmbfaa
open Go.RowKit
set_option maxHeartbeats 400000
set_option maxRecDepth 100000

def IdxPost (b : Bool) (e : Ending) : Prop := ∃ r : Int, e = .returned (.int .i64 r) ∧ decide (0 ≤ r) = b
theorem any_take {α : Type} (p : α → Bool) (xs : List α) (k : Nat) (h : k < xs.length) : (xs.take (k + 1)).any p = ((xs.take k).any p || p xs[k]) := by
  rw [List.take_succ_eq_append_getElem h, List.any_append]
  simp
theorem any_found {α : Type} (p : α → Bool) (xs : List α) (k : Nat) (h : k < xs.length) (hp : p xs[k] = true) : xs.any p = true := List.any_eq_true.2 ⟨_, List.getElem_mem h, hp⟩
theorem any_none {α : Type} (p : α → Bool) (xs : List α) (k : Nat) (h : xs.length ≤ k) (hp : (xs.take k).any p = false) : xs.any p = false := by rwa [List.take_of_length_le h] at hp

theorem any_not {α : Type} (l : List α) (p q : α → Bool) (h : ∀ x ∈ l, p x = !q x) : l.all q = !l.any p := by
  induction l with
  | nil => rfl
  | cons x l ih =>
    rw [List.all_cons, List.any_cons, ih fun y hy => h y (List.mem_cons_of_mem _ hy), h x List.mem_cons_self]
    cases q x <;> simp
theorem sectorsOk_any (xs : List Scu.Str) : Scu.sectorsOk xs = (xs.length == 6 && !xs.any fun s => decide (8 < s.size)) := by
  unfold Scu.sectorsOk
  rw [any_not xs (fun s => decide (8 < s.size)) _ (fun x _ => by rw [Bool.eq_iff_iff]; simp)]
theorem volFault_any (x : Scu.Volume) : Scu.volFault x = if (!Scu.sectorsOk x.now || decide ((3 : Int) < (x.snaps.length : Int)) || x.snaps.any fun l => !Scu.sectorsOk l) = true then 8 else 0 := by
  have e : Scu.volOk x = !(!Scu.sectorsOk x.now || decide ((3 : Int) < (x.snaps.length : Int)) || x.snaps.any fun l => !Scu.sectorsOk l) := by
    unfold Scu.volOk
    rw [any_not x.snaps (fun l => !Scu.sectorsOk l) _ (fun _ _ => rfl)]
    have : decide (x.snaps.length ≤ 3) = !decide ((3 : Int) < (x.snaps.length : Int)) := by rw [Bool.eq_iff_iff]; simp; omega
    rw [this]
    simp
  unfold Scu.volFault
  rw [e]
  cases (!Scu.sectorsOk x.now || decide ((3 : Int) < (x.snaps.length : Int)) || x.snaps.any fun l => !Scu.sectorsOk l) <;> rfl
end Go.Proofs.Ytlaibljdlpmbfaa
/- Appends onto rows of the call's own, from whatever source. -/
namespace Go.Proofs.Ytlaibljdlpmbfaa
open Go.RowKit
set_option maxHeartbeats 400000
set_option maxRecDepth 100000

/-- The slice type t has elements of the type e, of so many cells and bytes. -/
def ElT (t e : TypeId) (size bytes : Nat) : Prop :=
  Try.prog.underlying t = some (.slice e) ∧ 0 < size ∧ ∃ i z, Try.prog.info? e = some i ∧ i.zero = some z ∧ i.size = size ∧ i.bytes = bytes ∧ z.cells.size = size

/-- What a slice value yields as a source: nil, or a row. -/
def Src1 (w : World) (size : Nat) (x : Value) (m : Nat) (news : List Value) : Prop :=
  news.length = m * size ∧ ((∃ c, x = .slice none 0 c ∧ m = 0) ∨ ∃ ad c, x = .slice (some ad) m c ∧ ∀ (j : Nat) (u : Value), news[j]? = some u → w.cell? (ad.add j) = some u)

theorem src_of_rd {w : World} {B : Nat} {t : TypeId} {A : Option Addr} {m c : Nat} {size : Nat} {news : List Value} (h : Rd w B t A news) (hl : news.length = m * size) (hA : A = none → m = 0) : Src1 w size (.slice A m c) m news := by
  refine ⟨hl, ?_⟩
  rcases A with _ | ad
  · have := hA rfl
    subst this
    exact .inl ⟨c, rfl, rfl⟩
  · refine .inr ⟨ad, c, rfl, fun j u hj => ?_⟩
    rcases h with h | ⟨g, o, h1, _, _, h4⟩
    · subst h; simp at hj
    · simp only [Option.some.injEq] at h1
      subst h1
      have e : (⟨g, o, none⟩ : Addr).add j = ⟨g, o + j, none⟩ := by unfold Addr.add; split <;> simp_all
      rw [e]
      exact h4 j u hj

section
variable (w : World)
theorem run_app {t e ty : TypeId} {size bytes : Nat} (hE : ElT t e size bytes) (base : Nat) (v : Value) (n : Nat) (xs : List Value) (hown : w.ownsRow base e size v n xs)
    (x : Value) (m : Nat) (news : List Value) (hx : Src1 w size x m news) (h1 : ∀ u ∈ news, u.oneCell' = true) (hmax : n + m ≤ maxLen) (hbytes : (n + m) * bytes ≤ 140737488355328) (hbase : base ≤ w.heap.size) :
    ∃ v' w', (Builtin.append_ #[t, t] ty #[v, x]).run Try.prog w = .ok v' w' ∧ w'.ownsRow base e size v' (n + m) (xs ++ news) ∧ w.grownBy w' v.ownBlock ∧ (v'.ownBlock = v.ownBlock ∨ v'.ownBlock = some w.heap.size) := by
  obtain ⟨ht, hsz, i, z, hi, hz, hs1, hs2, hzs⟩ := hE
  obtain ⟨hl, ⟨c, rfl, rfl⟩ | ⟨ad, c, rfl, hcells⟩⟩ := hx
  · have hn : news = [] := List.eq_nil_of_length_eq_zero (by simpa using hl)
    subst hn
    refine ⟨v, w, ?_, by simpa using hown, World.grownBy.refl w _, .inl rfl⟩
    rcases hown.2 with ⟨rfl, rfl⟩ | ⟨g, cap, cur, rfl, _, _, hnc, _⟩
    · simp [Builtin.append_, run_underlying ht, sizeOf, typeInfo, hi, Builtin.lenOf, Builtin.firstCells]
    · simp [Builtin.append_, run_underlying ht, sizeOf, typeInfo, hi, Builtin.lenOf, Builtin.firstCells, hnc, storeCells]
  · obtain ⟨v', w', hrun, h2, h3, _, h5⟩ := run_append_own_at (P := Try.prog) w base t ty e i z size bytes ht hi hz hs1 hs2 hzs hsz v n xs hown ad m c news hl hcells h1 hmax hbytes hbase
    exact ⟨v', w', hrun, h2, h3, h5⟩
theorem wp_app {o : Oper} {a : Act} {K : Act → World → Prop} {Q : Exit → Act → World → Prop} (s x : Operand) (t : TypeId)
    (ho : o.op = .call { callee := .builtin .append, args := #[s, x], argTypes := #[t, t] }) {e : TypeId} {size bytes : Nat} (hE : ElT t e size bytes) (base : Nat) (v : Value) (n : Nat) (xs : List Value) (hs : a.eval s = v) (hown : w.ownsRow base e size v n xs)
    (xv : Value) (m : Nat) (news : List Value) (hxv : a.eval x = xv) (hx : Src1 w size xv m news) (h1 : ∀ u ∈ news, u.oneCell' = true) (hmax : n + m ≤ maxLen) (hbytes : (n + m) * bytes ≤ 140737488355328) (hbase : base ≤ w.heap.size)
    (h : ∀ v' w', w'.ownsRow base e size v' (n + m) (xs ++ news) → w.grownBy w' v.ownBlock → (v'.ownBlock = v.ownBlock ∨ v'.ownBlock = some w.heap.size) → K (a.put o.dst v') w') : o.wp Try.prog a w K Q := by
  obtain ⟨v', w', hrun, h2, h3, h4⟩ := run_app w (ty := o.type) hE base v n xs hown xv m news hx h1 hmax hbytes hbase
  unfold Oper.wp execOp
  simp only [ho, resolve, invoke, builtin, Sem.run_bind, Sem.run_pure, Result.andThen_ok, List.map_toArray, List.map_cons, List.map_nil, hs, hxv, hrun]
  exact h v' w' h2 h3 h4
theorem list_app {ops : Array Oper} {rest : List Oper} {o : Oper} {a : Act} {Q : Exit → Act → World → Prop} (hgd : o.guard = none) (s x : Operand) (t : TypeId)
    (ho : o.op = .call { callee := .builtin .append, args := #[s, x], argTypes := #[t, t] }) {e : TypeId} {size bytes : Nat} (hE : ElT t e size bytes) (base : Nat) (v : Value) (n : Nat) (xs : List Value) (hs : a.eval s = v) (hown : w.ownsRow base e size v n xs)
    (xv : Value) (m : Nat) (news : List Value) (hxv : a.eval x = xv) (hx : Src1 w size xv m news) (h1 : ∀ u ∈ news, u.oneCell' = true) (hmax : n + m ≤ maxLen) (hbytes : (n + m) * bytes ≤ 140737488355328) (hbase : base ≤ w.heap.size)
    (h : ∀ v' w', w'.ownsRow base e size v' (n + m) (xs ++ news) → w.grownBy w' v.ownBlock → (v'.ownBlock = v.ownBlock ∨ v'.ownBlock = some w.heap.size) → wpList Try.prog ops Q rest (a.put o.dst v') w') : wpList Try.prog ops Q (o :: rest) a w :=
  wpList_plain hgd fun _ hK => wp_app w s x t ho hE base v n xs hs hown xv m news hxv hx h1 hmax hbytes hbase fun v' w' h2 h3 h4 => hK _ _ (h v' w' h2 h3 h4)
theorem step_app {ops : Array Oper} {o : Oper} {a : Act} {K : Act → World → Prop} {Q : Exit → Act → World → Prop} {E : Prop} (hgd : o.guard = none) (s x : Operand) (t : TypeId)
    (ho : o.op = .call { callee := .builtin .append, args := #[s, x], argTypes := #[t, t] }) {e : TypeId} {size bytes : Nat} (hE : ElT t e size bytes) (base : Nat) (v : Value) (n : Nat) (xs : List Value) (hs : a.eval s = v) (hown : w.ownsRow base e size v n xs)
    (xv : Value) (m : Nat) (news : List Value) (hxv : a.eval x = xv) (hx : Src1 w size xv m news) (h1 : ∀ u ∈ news, u.oneCell' = true) (hmax : n + m ≤ maxLen) (hbytes : (n + m) * bytes ≤ 140737488355328) (hbase : base ≤ w.heap.size)
    (h : ∀ v' w', w'.ownsRow base e size v' (n + m) (xs ++ news) → w.grownBy w' v.ownBlock → (v'.ownBlock = v.ownBlock ∨ v'.ownBlock = some w.heap.size) → K (a.put o.dst v') w') :
    if Region.wanted o (yielded ops a.tmps) = true then Oper.wp Try.prog o a w K Q else E := by
  have hw : Region.wanted o (yielded ops a.tmps) = true := by simp [Region.wanted, hgd]
  rw [if_pos hw]
  exact wp_app w s x t ho hE base v n xs hs hown xv m news hxv hx h1 hmax hbytes hbase h
end

/-- An owned row, read. -/
theorem rd_own {w : World} {base : Nat} {e : TypeId} {size n : Nat} {v : Value} {xs : List Value} (h : w.ownsRow base e size v n xs) :
    ∃ A c, v = .slice A n c ∧ n ≤ c ∧ (A = none → n = 0 ∧ c = 0) ∧ Rd w 0 e A xs ∧ (∀ g, v.ownBlock = some g → base ≤ g ∧ g < w.heap.size) := by
  have hlt := h.lt
  obtain ⟨hl, ⟨rfl, rfl⟩ | ⟨g, cap, cur, rfl, hb, hh, hnc, _, hcs, ht⟩⟩ := h
  · have hx : xs = [] := List.eq_nil_of_length_eq_zero (by simpa using hl)
    subst hx
    exact ⟨none, 0, rfl, Nat.le_refl _, fun _ => ⟨rfl, rfl⟩, Rd.nil, hlt⟩
  · refine ⟨_, cap, rfl, hnc, (fun e => by cases e), ?_, hlt⟩
    have hg : g < w.heap.size := by
      rcases Nat.lt_or_ge g w.heap.size with h | h
      · exact h
      · rw [Array.getElem?_eq_none h] at hh; cases hh
    refine .inr ⟨g, 0, rfl, hg, .inr ⟨cur, _, hh⟩, fun j u hj => ?_⟩
    have hj' : j < n * size := by
      have : j < xs.length := by
        rcases Nat.lt_or_ge j xs.length with h | h
        · exact h
        · rw [List.getElem?_eq_none h] at hj; cases hj
      omega
    simp only [World.cell?, hh, Nat.zero_add]
    rw [← ht, List.getElem?_take_of_lt hj'] at hj
    simpa using hj

theorem el_strs : ElT 22 9 1 16 := by
  obtain ⟨i, h1, h2, h3, h4⟩ := info_parts (P := Try.prog) (e := 9) (z := .string ⟨#[]⟩) (size := 1) (bytes := 16) (by kernel_rfl)
  exact ⟨Try.underlying22, by omega, i, _, h1, h2, h3, h4, rfl⟩
theorem rd_none {w : World} {B : Nat} {t : TypeId} {cs : List Value} (h : Rd w B t none cs) : cs = [] := by
  rcases h with h | ⟨g, o, h1, _⟩
  · exact h
  · cases h1
theorem own_new {w : World} {e : TypeId} {size : Nat} {base : Nat} (hb : base ≤ w.heap.size) : (w.alloc (.cells #[] e)).ownsRow base e size (.slice (some ⟨w.heap.size, 0, none⟩) 0 0) 0 [] :=
  World.ownsRow_made w #[] 0 hb (Nat.zero_le _) (by simp)
theorem one_strs (xs : List Scu.Str) : ∀ u ∈ xs.map Value.string, u.oneCell' = true := fun u hu => by
  obtain ⟨s, _, rfl⟩ := List.mem_map.1 hu
  rfl
theorem below_grown {w w' : World} {row : Option Nat} (hg : w.grownBy w' row) {B : Nat} (hB : B ≤ w.heap.size) (hr : ∀ k, row = some k → B ≤ k) : Below B w w' :=
  (Below.refl B w).grown hg hB hr

theorem cloneStrs_c (v : Value) (xs : List Scu.Str) (w : World) (B : Nat) (hv : IsStrs w B v xs) :
    Calls Try.prog 25 #[v] w fun e w' => (∃ u, e = .returned u ∧ w'.ownsRow w.heap.size 9 1 u xs.length (xs.map Value.string)) ∧ Below w.heap.size w w' := by
  obtain ⟨⟨A, c, rfl, hlc, hr⟩, hl, he⟩ := hv
  have heq := fun (W : World) => Lib.run_eql_slice_nil (P := Try.prog) W 22 9 A xs.length c 0 0 Try.underlying22
  rcases A with _ | ad
  · have hx : xs = [] := by
      have := rd_none hr
      simpa using this
    subst hx
    have heq0 := fun (W : World) => Lib.run_eql_slice_nil (P := Try.prog) W 22 9 none 0 c 0 0 Try.underlying22
    clear heq
    go_enter Try.func25, Try.ntmps25
    go_wp2
    go_ret
    exact ⟨⟨_, rfl, World.ownsRow_nil _ _ _ _⟩, Below.refl _ _⟩
  · have hl' := hl
    unfold R47 at hl'
    go_enter Try.func25, Try.ntmps25
    go_wp2_with (at_builtin; refine list_app _ rfl _ _ 22 rfl el_strs w.heap.size _ 0 [] rfl (own_new (Nat.le_refl _)) _ xs.length (xs.map Value.string) rfl ?c1 (one_strs xs) (by unfold maxLen; omega) (by omega) (by simp) ?_)
    case c1 => exact src_of_rd (hr.alloc _) (by simp) (fun e => by cases e)
    intro v1 w1 hown hg hw
    have HO := Lib.hid hown
    have HW := Lib.hid hw
    clear hown hw
    go_wp2
    go_ret
    refine ⟨⟨_, rfl, HO.out⟩, ?_⟩
    exact ((Below.refl _ _).alloc (Nat.le_refl _) _).trans (below_grown hg (by simp) (fun k hk => by simp [Value.ownBlock] at hk; omega))
theorem strs_own {w : World} {base : Nat} {v : Value} {xs : List Scu.Str} (h : w.ownsRow base 9 1 v xs.length (xs.map Value.string)) (h1 : xs.length * 16 ≤ R47) (h2 : ∀ s ∈ xs, s.size ≤ R47) : IsStrs w 0 v xs := by
  obtain ⟨A, c, rfl, hc, _, hr, _⟩ := rd_own h
  exact ⟨⟨_, _, rfl, hc, hr⟩, h1, h2⟩

theorem ownsRow_base {w : World} {base base' : Nat} {e : TypeId} {size n : Nat} {v : Value} {xs : List Value} (h : w.ownsRow base e size v n xs) (hb : base' ≤ base) : w.ownsRow base' e size v n xs := by
  obtain ⟨h1, h2 | ⟨g, cap, cur, h2, h3, h4⟩⟩ := h
  · exact ⟨h1, .inl h2⟩
  · exact ⟨h1, .inr ⟨g, cap, cur, h2, by omega, h4⟩⟩
/-- Rows of two element types lie in two blocks. -/
theorem own_ne {w : World} {b b' : Nat} {e e' : TypeId} {s s' n n' : Nat} {v v' : Value} {xs xs' : List Value} (h : w.ownsRow b e s v n xs) (h' : w.ownsRow b' e' s' v' n' xs') (he : e ≠ e') {g : Nat} (hg : v.ownBlock = some g) : v'.ownBlock ≠ some g := by
  intro hg'
  obtain ⟨_, ⟨rfl, _⟩ | ⟨q, cap, cur, rfl, _, hh, _⟩⟩ := h
  · cases hg
  obtain ⟨_, ⟨rfl, _⟩ | ⟨q', cap', cur', rfl, _, hh', _⟩⟩ := h'
  · cases hg'
  simp only [Value.ownBlock, Option.some.injEq] at hg hg'
  subst hg
  subst hg'
  rw [hh] at hh'
  cases hh'
  exact he rfl
/-- A volume that the call has made: the row Now is its own, and no snapshot's row lies in that block. -/
structure OwnVol (w : World) (base : Nat) (nv sv : Value) (x : Scu.Volume) : Prop where
  now : w.ownsRow base 9 1 nv x.now.length (x.now.map Value.string)
  nowLen : x.now.length * 16 ≤ R47
  nowEach : ∀ s ∈ x.now, s.size ≤ R47
  len : x.snaps.length * 24 ≤ R47
  snaps : ∃ vs b, w.ownsRow base 22 1 sv x.snaps.length vs ∧ (∀ (j : Nat) (u : Value) (y : List Scu.Str), vs[j]? = some u → x.snaps[j]? = some y → IsStrs w 0 u y) ∧
    (∀ g, nv.ownBlock = some g → g < b) ∧ (∀ u ∈ vs, ∀ g, u.ownBlock = some g → b ≤ g)
theorem OwnVol.is {w : World} {base : Nat} {nv sv : Value} {x : Scu.Volume} (h : OwnVol w base nv sv x) : IsVolume w 0 nv sv x := by
  refine ⟨strs_own h.now h.nowLen h.nowEach, ?_⟩
  obtain ⟨vs, b, h1, h2, _, _⟩ := h.snaps
  obtain ⟨A, c, rfl, hc, _, hr, _⟩ := rd_own h1
  exact ⟨⟨_, _, vs, rfl, hc, hr, by have := h1.1; omega, h2⟩, h.len⟩

theorem below_alloc (w : World) (o : Obj) : Below w.heap.size w (w.alloc o) := (Below.refl _ _).alloc (Nat.le_refl _) o
theorem own_below {w w' : World} {base : Nat} {e : TypeId} {size n : Nat} {v : Value} {xs : List Value} (h : w.ownsRow base e size v n xs) (hb : Below w.heap.size w w') : w'.ownsRow base e size v n xs :=
  h.kept (row := none) ⟨hb.os, hb.tape, hb.output, hb.size, fun i hi _ => hb.block i hi⟩ (by cases hv : v.ownBlock with
    | none => exact .inl rfl
    | some g => exact .inr (by simp))
theorem own_kind {w : World} {base : Nat} {e : TypeId} {size n : Nat} {v : Value} {xs : List Value} (h : w.ownsRow base e size v n xs) {g : Nat} (hg : v.ownBlock = some g) : ∃ C fz, w.heap[g]? = some (.cells C e fz) := by
  obtain ⟨_, ⟨rfl, _⟩ | ⟨q, cap, cur, rfl, _, hh, _⟩⟩ := h
  · cases hg
  · simp only [Value.ownBlock, Option.some.injEq] at hg
    subst hg
    exact ⟨_, _, hh⟩
theorem set_grown (w : World) (p : Addr) (u : Value) : w.grownBy (w.setCell p u) (some p.block) :=
  ⟨rfl, rfl, rfl, by simp [World.setCell], fun i _ hne => Below.heap_setCell w p u i (fun e => hne (by rw [e]))⟩
theorem own_set {w : World} {base : Nat} {e : TypeId} {size n : Nat} {v : Value} {xs : List Value} (h : w.ownsRow base e size v n xs) {g i : Nat} {t : TypeId} {cs : Array Value} (hb : Blk w g t cs) (hne : t ≠ e) (u : Value) : (w.setCell ⟨g, i, none⟩ u).ownsRow base e size v n xs := by
  refine h.kept (set_grown _ _ _) (.inr fun hg => ?_)
  obtain ⟨C, fz, hh⟩ := own_kind h hg
  unfold Blk at hb
  rw [hh] at hb
  cases hb
  exact hne rfl
theorem OwnVol.set_ {w : World} {base : Nat} {nv sv : Value} {x : Scu.Volume} (h : OwnVol w base nv sv x) {g i : Nat} {t : TypeId} {cs : Array Value} (hb : Blk w g t cs) (h1 : t ≠ 9) (h2 : t ≠ 22) (u : Value) : OwnVol (w.setCell ⟨g, i, none⟩ u) base nv sv x := by
  refine ⟨own_set h.now hb h1 u, h.nowLen, h.nowEach, h.len, ?_⟩
  obtain ⟨vs, b, h3, h4, h5⟩ := h.snaps
  refine ⟨vs, b, own_set h3 hb h2 u, fun j v y hv hy => (h4 j v y hv hy).keep (by simp [World.setCell]) ?_, h5⟩
  rintro q hq (h0 | ⟨C, fz, hh⟩)
  · omega
  · refine Below.heap_setCell w _ u q fun e => ?_
    have e' : q = g := e
    subst e'
    unfold Blk at hb
    rw [hh] at hb
    cases hb
    exact h1 rfl

end Go.Proofs.Ytlaibljdlpmbfaa
/- Texts, rows of texts and volumes, opened with the bounds of the reach. -/
namespace Go.Proofs.Ytlaibljdlpmbfaa
open Go.RowKit Go.ChangeShapes Go.WideShapes Go.ChangeAt
set_option maxHeartbeats 400000
set_option maxRecDepth 100000

def IsVolV (w : World) (v : Value) (x : Scu.Volume) : Prop := ∃ nv sv, v = .agg #[nv, sv] ∧ IsVolume w w.heap.size nv sv x

theorem weightsAll_mem {H : Type} {P : Program} {e : TypeId} {d : DataW H} {k : Nat} (hk : k ∈ d.weights P e) : ∀ {ds : List (DataW H)}, d ∈ ds → k ∈ DataW.weightsAll P e ds
  | [], h => by cases h
  | d0 :: ds, h => by
    simp only [DataW.weightsAll, List.mem_append]
    rcases List.mem_cons.1 h with rfl | h
    · exact .inl hk
    · exact .inr (weightsAll_mem hk h)
theorem bytes_string : Try.prog.bytesOf 9 = 16 := by kernel_rfl
theorem bytes_strs : Try.prog.bytesOf 22 = 24 := by kernel_rfl

section
variable {H : Type} {enc : TypeId × Value → H} {w : World} {base : Nat} {spare : Nat → Bool} {held : Bool} {n : Nat}
theorem trod_strs {v : Value} {x : DataW H × List MemPlace} (h : DataW.trod enc Try.prog w base spare held n 22 [v] = some x) (hw : ∀ k ∈ x.1.weights Try.prog 22, k ≤ reachBytes) :
    ∃ xs, IsStrs w w.heap.size v xs := by
  have hlt := DataW.trod_lt n _ _ _ h
  rcases open_strings Try.underlying22 Try.underlying9 cells_string h with ⟨e, rfl⟩ | ⟨a, len, cap, ss, e, hb, hl, hm, hlen, rfl, hcell, _⟩
  · simp at e; subst e; exact ⟨[], IsStrs.nil_⟩
  · simp only [List.cons.injEq, and_true] at e
    subst e
    have hle : len ≤ ss.length := by rw [hlen]; split <;> omega
    have hwt : ∀ k ∈ DataW.weights Try.prog 22 (DataW.slice (H := H) (strs (ss.take len)) (strs (ss.drop len))), k ≤ reachBytes := hw
    simp only [DataW.weights, Try.underlying22, List.mem_cons, List.mem_append, bytes_string] at hwt
    have hwl := hwt _ (.inl rfl)
    simp only [strs, List.length_map, List.length_take, List.length_drop] at hwl
    have hres : (ss.take len).length = len := by simp; omega
    refine ⟨ss.take len, ⟨some a, cap, by rw [hres], by omega, ?_⟩, ?_, ?_⟩
    · rcases Nat.eq_zero_or_pos len with h0 | h0
      · subst h0
        exact .inl (by simp)
      · have hc0 := hcell 0 (by omega)
        obtain ⟨b, o, spot⟩ := a
        have hspot : spot = none := by simpa [Addr.add] using World.cell?_spot hc0
        subst hspot
        have hbl : b < w.heap.size := by
          rcases Nat.lt_or_ge b w.heap.size with h | h
          · exact h
          · simp [World.cell?, Addr.add, Array.getElem?_eq_none h] at hc0
        refine .inr ⟨b, o, rfl, hbl, .inl hbl, fun j u hj => ?_⟩
        have hj' : j < len := by
          rcases Nat.lt_or_ge j len with h | h
          · exact h
          · rw [List.getElem?_eq_none (by simp; omega)] at hj; cases hj
        have := hcell j (by omega)
        have e2 : (⟨b, o, none⟩ : Addr).add j = ⟨b, o + j, none⟩ := by unfold Addr.add; split <;> simp_all
        rw [e2] at this
        rw [this]
        rw [List.getElem?_map, List.getElem?_take_of_lt hj', List.getElem?_eq_getElem (by omega)] at hj
        simp only [Option.map_some, Option.some.injEq] at hj
        subst hj
        simp [List.getD, List.getElem?_eq_getElem (show j < ss.length by omega)]
    · rw [hres]
      have : reachBytes = R47 := rfl
      omega
    · intro s hs
      have : reachBytes = R47 := rfl
      rw [← this]
      refine hwt s.size (.inr (.inl (weightsAll_mem (d := .lit (.string s.data.toList)) ?_ ?_)))
      · unfold DataW.weights
        exact List.mem_singleton.2 (show s.data.size = s.data.toList.length from Array.length_toList.symm)
      · exact List.mem_map.2 ⟨s, hs, rfl⟩
end
end Go.Proofs.Ytlaibljdlpmbfaa
/- Walks: may a volume be? The reference's; the law VolumeChecks. -/
namespace Go.Proofs.Ytlaibljdlpmbfaa
open Go.RowKit
set_option maxHeartbeats 400000
set_option maxRecDepth 100000

def okTo (x : Scu.Volume) (k : Nat) : Bool := Scu.sectorsOk x.now && decide (x.snaps.length ≤ 3) && (x.snaps.take k).all Scu.sectorsOk
theorem okTo_all (x : Scu.Volume) (k : Nat) (h : x.snaps.length ≤ k) : okTo x k = Scu.volOk x := by
  unfold okTo Scu.volOk
  rw [List.take_of_length_le h]
theorem okTo_succ (x : Scu.Volume) (k : Nat) (h : k < x.snaps.length) : okTo x (k + 1) = (okTo x k && Scu.sectorsOk x.snaps[k]) := by
  unfold okTo
  rw [List.take_succ_eq_append_getElem h, List.all_append]
  simp only [List.all_cons, List.all_nil, Bool.and_true, Bool.and_assoc]
theorem okTo_zero (x : Scu.Volume) : okTo x 0 = (Scu.sectorsOk x.now && decide ((x.snaps.length : Int) ≤ 3)) := by
  unfold okTo
  have : decide (x.snaps.length ≤ 3) = decide ((x.snaps.length : Int) ≤ 3) := by rw [Bool.eq_iff_iff]; simp; omega
  rw [this]
  simp
theorem IsVolume.at_ {w w' : World} {B : Nat} {nv sv : Value} {x : Scu.Volume} (h : IsVolume w B nv sv x) (hb : Below w.heap.size w w') : IsVolume w' B nv sv x := h.below hb
end Go.Proofs.Ytlaibljdlpmbfaa

namespace Scu

abbrev Str := ByteArray

structure Op where
  kind : Int
  at_ : Int
  snap : Int
  data : Str
deriving DecidableEq

structure Reply where
  code : Int
  n : Int
  data : Str
deriving DecidableEq

structure Volume where
  now : List Str
  snaps : List (List Str)
deriving DecidableEq

structure Request where
  client : Int
  num : Int
  op : Op
deriving DecidableEq

structure Last where
  num : Int
  reply : Reply
deriving DecidableEq

structure State where
  volume : Volume
  lasts : List Last
deriving DecidableEq

structure Kept where
  view : Int
  normal : Int
  calm : Bool
  log : List Str
  commit : Int
deriving DecidableEq

structure Replica where
  me : Int
  kept : Kept
  have_ : List Int
  wants : List Bool
  gives : List Kept
  given : List Bool
deriving DecidableEq

structure Message where
  kind : Int
  from_ : Int
  to : Int
  view : Int
  normal : Int
  commit : Int
  n : Int
  log : List Str
deriving DecidableEq

structure Customer where
  id : Int
  next : Int
  wait : Request
deriving DecidableEq

structure Act where
  kind : Int
  c : Int
  r : Int
  k : Int
  n : Int
  op : Op
deriving DecidableEq

structure Told where
  request : Request
  reply : Reply
deriving DecidableEq

structure Outcome where
  replicas : List Replica
  slots : List (List Str)
  flying : List Message
  clients : List Customer
  told : List Told
  codes : List Int
deriving DecidableEq

def str0 : Str := ByteArray.empty
def op0 : Op := ⟨0, 0, 0, str0⟩
def reply0 : Reply := ⟨0, 0, str0⟩
def vol0 : Volume := ⟨[], []⟩
def req0 : Request := ⟨0, 0, op0⟩
def last0 : Last := ⟨0, reply0⟩
def state0 : State := ⟨vol0, []⟩
def kept0 : Kept := ⟨0, 0, false, [], 0⟩
def replica0 : Replica := ⟨0, kept0, [], [], [], []⟩
def msg0 : Message := ⟨0, 0, 0, 0, 0, 0, 0, []⟩

/- layer 1 -/
def b8 (n : Int) : UInt8 := UInt8.ofNat (n % 256).toNat
def numBytes (n : Int) : Str := ⟨#[b8 (n / 16777216), b8 (n / 65536), b8 (n / 256), b8 n]⟩
def number (n : Int) : Str × Int := if n < 0 ∨ 1073741824 < n then (str0, 2) else (numBytes n, 0)
def textBytes (s : Str) : Str := ⟨#[b8 s.size]⟩ ++ s
def text (s : Str) : Str × Int := if 255 < s.size then (str0, 1) else (textBytes s, 0)
def byteAt (s : Str) (i : Nat) : Int := ((s.data.toList.getD i 0).toNat : Int)
def num4 (s : Str) : Int := byteAt s 0 * 16777216 + byteAt s 1 * 65536 + byteAt s 2 * 256 + byteAt s 3
def dropS (s : Str) (k : Nat) : Str := s.extract k s.size
def readNumber (s : Str) : Int × Str × Int :=
  if s.size < 4 then (0, str0, 5)
  else if 1073741824 < num4 s then (0, str0, 4)
  else (num4 s, dropS s 4, 0)
def readText (s : Str) : Str × Str × Int :=
  if s.size = 0 then (str0, str0, 5)
  else if (s.size : Int) - 1 < byteAt s 0 then (str0, str0, 5)
  else (s.extract 1 (1 + byteAt s 0).toNat, dropS s (1 + byteAt s 0).toNat, 0)
def sealStep (p : Int × Int) (b : UInt8) : Int × Int :=
  let x := (p.1 + b.toNat) % 65521
  (x, (p.2 + x) % 65521)
def sealXY (l : List UInt8) : Int × Int := l.foldl sealStep (1, 0)
def sealS (s : Str) : Str :=
  let p := sealXY s.data.toList
  ⟨#[b8 (p.2 / 256), b8 p.2, b8 (p.1 / 256), b8 p.1]⟩

/- volume -/
def volNew : Volume := ⟨List.replicate 6 str0, []⟩
def sectorsOk (l : List Str) : Bool := l.length == 6 && l.all fun s => decide (s.size ≤ 8)
def volOk (v : Volume) : Bool := sectorsOk v.now && decide (v.snaps.length ≤ 3) && v.snaps.all sectorsOk
def volFault (v : Volume) : Int := if volOk v then 0 else 8
def opFault (o : Op) : Int :=
  if o.kind < 1 ∨ 4 < o.kind then 3
  else if o.at_ < 0 ∨ 6 ≤ o.at_ ∨ o.snap < 0 ∨ 3 < o.snap then 2
  else if (o.kind ≠ 3 ∧ o.snap ≠ 0) ∨ (o.kind = 4 ∧ o.at_ ≠ 0) ∨ (o.kind ≠ 1 ∧ o.data.size ≠ 0) then 4
  else if 8 < o.data.size then 1 else 0
def doIt (v : Volume) (o : Op) : Volume × Reply :=
  if o.kind = 1 ∨ o.kind = 2 then (⟨v.now.set o.at_.toNat o.data, v.snaps⟩, reply0)
  else if o.kind = 4 then
    if v.snaps.length = 3 then (v, { reply0 with code := 7 }) else (⟨v.now, v.snaps ++ [v.now]⟩, { reply0 with n := v.snaps.length + 1 })
  else if o.snap = 0 then (v, { reply0 with data := v.now.getD o.at_.toNat str0 })
  else if (v.snaps.length : Int) < o.snap then (v, { reply0 with code := 6 })
  else (v, { reply0 with data := (v.snaps.getD (o.snap - 1).toNat []).getD o.at_.toNat str0 })
def volDo (v : Volume) (o : Op) : Volume × Reply × Int :=
  if volFault v ≠ 0 then (vol0, reply0, volFault v)
  else if opFault o ≠ 0 then (vol0, reply0, opFault o)
  else ((doIt v o).1, (doIt v o).2, 0)

/- machine -/
def reqFault (r : Request) : Int := if r.client < 1 ∨ 4 < r.client ∨ r.num < 1 ∨ 1048576 < r.num then 2 else opFault r.op
def reqBytes (r : Request) : Str := ⟨#[b8 r.client, b8 r.op.kind, b8 r.op.at_, b8 r.op.snap]⟩ ++ numBytes r.num ++ textBytes r.op.data
def encode (r : Request) : Str × Int := if reqFault r ≠ 0 then (str0, reqFault r) else (reqBytes r, 0)
def decode (s : Str) : Request × Int :=
  if 40 < s.size then (req0, 1)
  else if s.size < 4 then (req0, 5)
  else
    let a := readNumber (dropS s 4)
    if a.2.2 ≠ 0 then (req0, a.2.2) else
    let b := readText a.2.1
    if b.2.2 ≠ 0 then (req0, b.2.2) else
    if b.2.1 ≠ str0 then (req0, 4) else
    let r : Request := ⟨byteAt s 0, a.1, ⟨byteAt s 1, byteAt s 2, byteAt s 3, b.1⟩⟩
    if reqFault r ≠ 0 then (req0, reqFault r) else (r, 0)
def stateNew : State := ⟨volNew, List.replicate 4 last0⟩
def lastsOk (l : List Last) : Bool := l.length == 4 && l.all fun x => decide (0 ≤ x.num) && decide (x.num ≤ 1048576)
def stateFault (s : State) : Int := if lastsOk s.lasts then volFault s.volume else 8
def applyIt (s : State) (r : Request) : State :=
  if r.num ≤ (s.lasts.getD (r.client - 1).toNat last0).num then s
  else ⟨(doIt s.volume r.op).1, s.lasts.set (r.client - 1).toNat ⟨r.num, (doIt s.volume r.op).2⟩⟩
def apply (s : State) (e : Str) : State × Int :=
  if stateFault s ≠ 0 then (state0, stateFault s)
  else if (decode e).2 ≠ 0 then (state0, (decode e).2)
  else (applyIt s (decode e).1, 0)
def playFrom (s : State) : List Str → State × Int
  | [] => (s, 0)
  | e :: l => if (apply s e).2 ≠ 0 then (state0, (apply s e).2) else playFrom (apply s e).1 l
def play (l : List Str) : State × Int := playFrom stateNew l

/- stage -/
def logFault : List Str → Int
  | [] => 0
  | e :: l => if (decode e).2 ≠ 0 then (decode e).2 else logFault l
def keptFault (k : Kept) : Int :=
  if k.view < 0 ∨ 1048576 < k.view ∨ k.normal < 0 ∨ k.view < k.normal ∨ (k.calm = true ∧ k.normal ≠ k.view) then 2
  else if 60 < k.log.length then 1
  else if k.commit < 0 ∨ (k.log.length : Int) < k.commit then 2
  else logFault k.log
def catS : List Str → Str
  | [] => str0
  | s :: l => s ++ catS l
def keptBody (k : Kept) (gen : Int) : Str :=
  numBytes gen ++ numBytes k.view ++ numBytes k.normal ++ numBytes (if k.calm then 1 else 0) ++ numBytes k.commit ++ numBytes k.log.length ++ catS (k.log.map textBytes)
def keptBytes (k : Kept) (gen : Int) : Str := sealS (keptBody k gen) ++ keptBody k gen
def stageEncode (k : Kept) (gen : Int) : Str × Int :=
  if keptFault k ≠ 0 then (str0, keptFault k)
  else if gen < 0 ∨ 1073741824 < gen then (str0, 2)
  else (keptBytes k gen, 0)
def readNumbers : Nat → Str → List Int × Str × Int
  | 0, s => ([], s, 0)
  | n + 1, s =>
    let a := readNumber s
    if a.2.2 ≠ 0 then ([], str0, a.2.2) else
    let b := readNumbers n a.2.1
    if b.2.2 ≠ 0 then ([], str0, b.2.2) else (a.1 :: b.1, b.2.1, 0)
def readTexts : Nat → Str → List Str × Str × Int
  | 0, s => ([], s, 0)
  | n + 1, s =>
    let a := readText s
    if a.2.2 ≠ 0 then ([], str0, a.2.2) else
    let b := readTexts n a.2.1
    if b.2.2 ≠ 0 then ([], str0, b.2.2) else (a.1 :: b.1, b.2.1, 0)
def stageDecode (s : Str) : Kept × Int × Int :=
  if 4000 < s.size then (kept0, 0, 1)
  else if s.size < 4 then (kept0, 0, 5)
  else if sealS (dropS s 4) ≠ s.extract 0 4 then (kept0, 0, 11)
  else
    let a := readNumbers 6 (dropS s 4)
    if a.2.2 ≠ 0 then (kept0, 0, a.2.2) else
    let l := a.1
    if 1 < l.getD 3 0 ∨ 60 < l.getD 5 0 then (kept0, 0, 4) else
    let b := readTexts (l.getD 5 0).toNat a.2.1
    if b.2.2 ≠ 0 then (kept0, 0, b.2.2) else
    if b.2.1 ≠ str0 then (kept0, 0, 4) else
    let k : Kept := ⟨l.getD 1 0, l.getD 2 0, l.getD 3 0 == 1, b.1, l.getD 4 0⟩
    if keptFault k ≠ 0 then (kept0, 0, keptFault k) else (k, l.getD 0 0, 0)
def keptNew : Kept := { kept0 with calm := true }
def stageNew : List Str := [keptBytes keptNew 0, str0]
def load (l : List Str) : Kept × Int × Int × Int :=
  if l.length ≠ 2 then (kept0, 0, 0, 4) else
  let a := stageDecode (l.getD 0 str0)
  let b := stageDecode (l.getD 1 str0)
  if a.2.2 ≠ 0 ∧ b.2.2 ≠ 0 then (kept0, 0, 0, 13)
  else if a.2.2 ≠ 0 ∨ (b.2.2 = 0 ∧ a.2.1 < b.2.1) then (b.1, b.2.1, 1, 0)
  else (a.1, a.2.1, 0, 0)
def upTo (s : Str) (n : Int) : Str := if 0 ≤ n ∧ n < s.size then s.extract 0 n.toNat else s
def store (l : List Str) (k : Kept) (upto : Int) : List Str × Int :=
  let a := load l
  if a.2.2.2 ≠ 0 then ([], a.2.2.2)
  else if a.2.1 = 1073741824 then ([], 7)
  else if keptFault k ≠ 0 then ([], keptFault k)
  else if upto < -1 then ([], 2)
  else (l.set (1 - a.2.2.1).toNat (upTo (keptBytes k (a.2.1 + 1)) upto), 0)

/- replica -/
def repNew (me : Int) (k : Kept) : Replica × Int :=
  if me < 0 ∨ 3 ≤ me then (replica0, 2)
  else if keptFault k ≠ 0 then (replica0, keptFault k)
  else (⟨me, k, [0, 0, 0], [false, false, false], [kept0, kept0, kept0], [false, false, false]⟩, 0)
def repFault (r : Replica) : Int :=
  if r.me < 0 ∨ 3 ≤ r.me then 2
  else if r.have_.length ≠ 3 ∨ r.wants.length ≠ 3 ∨ r.gives.length ≠ 3 ∨ r.given.length ≠ 3 then 8
  else if r.have_.any (fun h => decide (h < 0) || decide ((r.kept.log.length : Int) < h)) || r.gives.any (fun g => decide (keptFault g ≠ 0)) then 8
  else keptFault r.kept
def leader (view : Int) : Int := view % 3
def leads (r : Replica) : Bool := r.kept.calm && decide (leader r.kept.view = r.me)
def msgFault (m : Message) : Int :=
  if m.kind < 1 ∨ 4 < m.kind then 3
  else if m.from_ < 0 ∨ 3 ≤ m.from_ ∨ m.to < 0 ∨ 3 ≤ m.to ∨ m.from_ = m.to ∨ m.view < 0 ∨ 1048576 < m.view ∨ m.n < 0 ∨ 60 < m.n then 2
  else if (m.kind ≠ 4 ∧ m.normal ≠ 0) ∨ (m.kind ≠ 2 ∧ m.n ≠ 0) ∨ ((m.kind = 2 ∨ m.kind = 3) ∧ (m.commit ≠ 0 ∨ m.log ≠ [])) then 4
  else if (m.kind = 1 ∧ m.from_ ≠ leader m.view) ∨ ((m.kind = 2 ∨ m.kind = 4) ∧ m.to ≠ leader m.view) then 4
  else keptFault ⟨m.view, m.normal, false, m.log, m.commit⟩
def toAll (me view : Int) (m : Message) : List Message :=
  ([0, 1, 2].filter fun i => decide (i ≠ me)).map fun i => { m with from_ := me, to := i, view := view }
def fresh (r : Replica) : Replica :=
  { r with have_ := [0, 0, 0], wants := [false, false, false], gives := [kept0, kept0, kept0], given := [false, false, false] }
def leadOn (r : Replica) : List Message := toAll r.me r.kept.view { msg0 with kind := 1, commit := r.kept.commit, log := r.kept.log }
def want (r : Replica) (view : Int) : Replica × List Message :=
  let r1 := fresh { r with kept := { r.kept with view := view, calm := false } }
  let r2 := { r1 with wants := r1.wants.set r.me.toNat true }
  (r2, toAll r.me view { msg0 with kind := 3 })
def own (k : Kept) : Kept := { k with calm := false }
def better (a b : Kept) : Bool := decide (b.normal < a.normal) || (decide (a.normal = b.normal) && decide (b.log.length < a.log.length))
def bestOf (l : List (Kept × Bool)) : Kept := l.foldl (fun b g => if g.2 && better g.1 b then g.1 else b) { kept0 with normal := -1 }
def maxCommit (l : List (Kept × Bool)) : Int := l.foldl (fun c g => if g.2 then max c g.1.commit else c) 0
def begun (r : Replica) : Replica × List Message :=
  if r.given.getD r.me.toNat false = false then (r, [])
  else if r.given.countP id < 2 then (r, [])
  else
    let l := r.gives.zip r.given
    let b := bestOf l
    let r1 := fresh { r with kept := ⟨r.kept.view, r.kept.view, true, b.log, min (maxCommit l) b.log.length⟩ }
    (r1, leadOn r1)
def give1 (r : Replica) (i : Int) (k : Kept) : Replica :=
  { r with gives := r.gives.set i.toNat (own k), given := r.given.set i.toNat true }
def take1 (r : Replica) (i : Int) (k : Kept) : Replica × List Message := begun (give1 r i k)
def hearLead (r : Replica) (m : Message) : Replica × List Message :=
  let k := r.kept
  let r1 :=
    if k.view < m.view ∨ k.calm = false then
      fresh { r with kept := ⟨m.view, m.view, true, m.log, max m.commit (min k.commit m.log.length)⟩ }
    else if k.log.length < m.log.length then { r with kept := { k with log := m.log } } else r
  let r2 := { r1 with kept := { r1.kept with commit := max r1.kept.commit (min m.commit r1.kept.log.length) } }
  (r2, [{ msg0 with kind := 2, from_ := r.me, to := m.from_, view := r2.kept.view, n := r2.kept.log.length }])
def hearHas (r : Replica) (m : Message) : Replica × List Message :=
  if m.view ≠ r.kept.view ∨ leads r = false then (r, [])
  else
    let n := min m.n r.kept.log.length
    let r1 := { r with have_ := r.have_.set m.from_.toNat (max (r.have_.getD m.from_.toNat 0) n) }
    if r.kept.commit < n then
      let r2 := { r1 with kept := { r.kept with commit := n } }
      (r2, leadOn r2)
    else (r1, [])
def wantIf (r : Replica) (v : Int) : Replica × List Message := if r.kept.view < v then want r v else (r, [])
def hearWant (r : Replica) (m : Message) : Replica × List Message :=
  let a := wantIf r m.view
  if a.1.kept.calm = true ∨ a.1.wants.getD m.from_.toNat false = true then a
  else
    let r1 := { a.1 with wants := a.1.wants.set m.from_.toNat true }
    let to := leader r1.kept.view
    if to = r1.me then
      let b := take1 r1 to r1.kept
      (b.1, a.2 ++ b.2)
    else (r1, a.2 ++ [{ msg0 with kind := 4, from_ := r1.me, to := to, view := r1.kept.view, normal := r1.kept.normal, commit := r1.kept.commit, log := r1.kept.log }])
def hearGive (r : Replica) (m : Message) : Replica × List Message :=
  let a := wantIf r m.view
  if a.1.kept.calm = true then a
  else
    let r1 := if a.1.given.getD a.1.me.toNat false = false then give1 a.1 a.1.me a.1.kept else a.1
    let b := take1 r1 m.from_ ⟨m.view, m.normal, false, m.log, m.commit⟩
    (b.1, a.2 ++ b.2)
def hearIt (r : Replica) (m : Message) : Replica × List Message :=
  if m.kind = 1 then hearLead r m else if m.kind = 2 then hearHas r m else if m.kind = 3 then hearWant r m else hearGive r m
def hear (r : Replica) (m : Message) : Replica × List Message × Int :=
  if repFault r ≠ 0 then (replica0, [], repFault r)
  else if msgFault m ≠ 0 then (replica0, [], msgFault m)
  else if m.to ≠ r.me then (replica0, [], 6)
  else if m.view < r.kept.view then (replica0, [], 9)
  else ((hearIt r m).1, (hearIt r m).2, 0)
def take (r : Replica) (e : Str) : Replica × List Message × Int :=
  if repFault r ≠ 0 then (replica0, [], repFault r)
  else if leads r = false then (replica0, [], 14)
  else if r.kept.log.length = 60 then (replica0, [], 7)
  else if (decode e).2 ≠ 0 then (replica0, [], (decode e).2)
  else
    let r1 := { r with kept := { r.kept with log := r.kept.log ++ [e] } }
    (r1, leadOn r1, 0)
def tick (r : Replica) : Replica × List Message × Int :=
  if repFault r ≠ 0 then (replica0, [], repFault r)
  else if leads r = true then (r, leadOn r, 0)
  else if r.kept.calm = true then (r, [{ msg0 with kind := 2, from_ := r.me, to := leader r.kept.view, view := r.kept.view, n := r.kept.log.length }], 0)
  else
    let r1 := { r with wants := r.wants.set r.me.toNat true }
    (r1, toAll r.me r.kept.view { msg0 with kind := 3 }, 0)
def alarm (r : Replica) : Replica × List Message × Int :=
  if repFault r ≠ 0 then (replica0, [], repFault r)
  else if r.kept.view = 1048576 then (replica0, [], 7)
  else ((want r (r.kept.view + 1)).1, (want r (r.kept.view + 1)).2, 0)

/- net -/
structure Net where
  replicas : List Replica
  slots : List (List Str)
  flying : List Message
  clients : List Customer
  told : List Told
deriving DecidableEq

def sendAll (f l : List Message) : List Message := l.foldl (fun f m => if f.length < 80 then f ++ [m] else f) f
def crash (x : Net) (r : Nat) : Net × Int :=
  let a := load (x.slots.getD r [])
  if a.2.2.2 ≠ 0 then (x, a.2.2.2)
  else
    let b := repNew r a.1
    ({ x with replicas := x.replicas.set r b.1 }, b.2)
def settle (x : Net) (r : Nat) (next : Replica) (out : List Message) (upto : Int) : Net × Int :=
  if next.kept = (x.replicas.getD r replica0).kept ∧ upto < 0 then
    ({ x with replicas := x.replicas.set r next, flying := sendAll x.flying out }, 0)
  else
    let a := store (x.slots.getD r []) next.kept upto
    if a.2 ≠ 0 then (x, a.2)
    else
      let y := { x with slots := x.slots.set r a.1 }
      if 0 ≤ upto then crash y r
      else ({ y with replicas := y.replicas.set r next, flying := sendAll y.flying out }, 0)
def actMessage (x : Net) (a : Act) : Net × Int :=
  if a.k < 0 ∨ (x.flying.length : Int) ≤ a.k then (x, 6)
  else
    let m := x.flying.getD a.k.toNat msg0
    if a.kind = 8 then
      if x.flying.length = 80 then (x, 7) else ({ x with flying := x.flying ++ [m] }, 0)
    else if a.kind = 10 ∧ (a.n < 0 ∨ 4000 < a.n) then (x, 2)
    else
      let y := { x with flying := x.flying.eraseIdx a.k.toNat }
      if a.kind = 7 then (y, 0)
      else
        let h := hear (x.replicas.getD m.to.toNat replica0) m
        if h.2.2 ≠ 0 then (y, h.2.2)
        else settle y m.to.toNat h.1 h.2.1 (if a.kind = 10 then a.n else -1)
def actAt (x : Net) (a : Act) : Net × Int :=
  if a.r < 0 ∨ 3 ≤ a.r then (x, 6)
  else if a.kind = 9 then crash x a.r.toNat
  else
    let h := if a.kind = 5 then alarm (x.replicas.getD a.r.toNat replica0) else tick (x.replicas.getD a.r.toNat replica0)
    if h.2.2 ≠ 0 then (x, h.2.2)
    else settle x a.r.toNat h.1 h.2.1 (-1)
def cust0 : Customer := ⟨0, 0, req0⟩
def answer (x : Net) (c : Nat) (r : Replica) : Net × Int :=
  let cu := x.clients.getD c cust0
  if leads r = false then (x, 14)
  else
    let s := play (r.kept.log.take r.kept.commit.toNat)
    if s.2 ≠ 0 then (x, s.2)
    else
      let l := s.1.lasts.getD (cu.id - 1).toNat last0
      if l.num ≠ cu.wait.num then (x, 12)
      else ({ x with told := x.told ++ [⟨cu.wait, l.reply⟩], clients := x.clients.set c { cu with wait := req0 } }, 0)
def actBy (x : Net) (a : Act) : Net × Int :=
  if a.c < 0 ∨ (x.clients.length : Int) ≤ a.c then (x, 6)
  else
    let c := x.clients.getD a.c.toNat cust0
    if a.kind = 1 then
      if 0 < c.wait.num then (x, 12)
      else if opFault a.op ≠ 0 then (x, opFault a.op)
      else ({ x with clients := x.clients.set a.c.toNat ⟨c.id, c.next + 1, ⟨c.id, c.next, a.op⟩⟩ }, 0)
    else if c.wait.num = 0 then (x, 9)
    else if a.r < 0 ∨ 3 ≤ a.r then (x, 6)
    else if a.kind = 3 then answer x a.c.toNat (x.replicas.getD a.r.toNat replica0)
    else
      let s := encode c.wait
      if s.2 ≠ 0 then (x, s.2)
      else
        let h := take (x.replicas.getD a.r.toNat replica0) s.1
        if h.2.2 ≠ 0 then (x, h.2.2)
        else settle x a.r.toNat h.1 h.2.1 (-1)
def act (x : Net) (a : Act) : Net × Int :=
  if a.kind = 1 ∨ a.kind = 2 ∨ a.kind = 3 then actBy x a
  else if a.kind = 4 ∨ a.kind = 5 ∨ a.kind = 9 then actAt x a
  else if a.kind = 6 ∨ a.kind = 7 ∨ a.kind = 8 ∨ a.kind = 10 then actMessage x a
  else (x, 3)
def netNew (clients : Nat) : Net :=
  ⟨[(repNew 0 keptNew).1, (repNew 1 keptNew).1, (repNew 2 keptNew).1], [stageNew, stageNew, stageNew], [],
    (List.range clients).map fun c : Nat => ⟨(c : Int) + 1, 1, req0⟩, []⟩
def steps (x : Net) : List Act → Net × List Int
  | [] => (x, [])
  | a :: l => ((steps (act x a).1 l).1, (act x a).2 :: (steps (act x a).1 l).2)
def outcome0 : Outcome := ⟨[], [], [], [], [], []⟩
def run (clients : Int) (l : List Act) : Outcome × Int :=
  if clients < 1 ∨ 4 < clients then (outcome0, 2)
  else if 300 < l.length then (outcome0, 1)
  else
    let s := steps (netNew clients.toNat) l
    (⟨s.1.replicas, s.1.slots, s.1.flying, s.1.clients, s.1.told, s.2⟩, 0)

end Scu

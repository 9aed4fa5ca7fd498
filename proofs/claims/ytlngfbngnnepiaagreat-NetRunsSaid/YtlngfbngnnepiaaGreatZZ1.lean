/- Part 1: words and walks under the laws of the whole. -/
set_option linter.unusedVariables false
set_option linter.unusedSimpArgs false
set_option maxHeartbeats 4000000
set_option maxRecDepth 100000
theorem mB {P Q : Prop} (h : P) (k : Q) : P ∧ Q := ⟨h, k⟩
theorem mC (n : Nat) : n ≤ n := Nat.le_refl n
theorem mD {n m k : Nat} (h : n ≤ m) (i : m ≤ k) : n ≤ k := Nat.le_trans h i
theorem mE (n : Nat) : 0 ≤ n := Nat.zero_le n
theorem mF {n m k : Nat} (h : n < m) (i : m ≤ k) : n < k := Nat.lt_of_lt_of_le h i
theorem mH {α : Type _} {l : List α} {i : Nat} (h : i < l.length) : l[i]? = some l[i] := List.getElem?_eq_getElem h
theorem mI {α : Type _} {l : List α} {i : Nat} {a : α} : l.getD i a = (l[i]?).getD a := List.getD_eq_getElem?_getD ..
theorem mJ {α : Sort _} (a : α) : ∃ x, x = a := ⟨a, rfl⟩
theorem mK {α : Sort _} (a : α) : ∃ x, a = x := ⟨a, rfl⟩
namespace Scu
abbrev Str:=ByteArray
structure Op where
 kind:Int
 at_:Int
 snap:Int
 data:Str
deriving DecidableEq
structure Reply where
 code:Int
 n:Int
 data:Str
deriving DecidableEq
structure Volume where
 now:List Str
 snaps:List (List Str)
deriving DecidableEq
structure Request where
 client:Int
 num:Int
 op:Op
deriving DecidableEq
structure Last where
 num:Int
 reply:Reply
deriving DecidableEq
structure State where
 volume:Volume
 lasts:List Last
deriving DecidableEq
structure Kept where
 view:Int
 normal:Int
 calm:Bool
 log:List Str
 commit:Int
deriving DecidableEq
structure Replica where
 me:Int
 kept:Kept
 have_:List Int
 wants:List Bool
 gives:List Kept
 given:List Bool
deriving DecidableEq
structure Message where
 kind:Int
 from_:Int
 tq:Int
 view:Int
 normal:Int
 commit:Int
 n:Int
 log:List Str
deriving DecidableEq
structure Customer where
 id:Int
 next:Int
 wait:Request
deriving DecidableEq
structure Act where
 kind:Int
 c:Int
 r:Int
 k:Int
 n:Int
 op:Op
deriving DecidableEq
structure Told where
 request:Request
 reply:Reply
deriving DecidableEq
structure Outcome where
 replicas:List Replica
 slots:List (List Str)
 flying:List Message
 clients:List Customer
 told:List Told
 codes:List Int
deriving DecidableEq
def str0:Str:=ByteArray.empty
def op0:Op:=⟨0,0,0,str0⟩
def reply0:Reply:=⟨0,0,str0⟩
def vol0:Volume:=⟨[],[]⟩
def req0:Request:=⟨0,0,op0⟩
def last0:Last:=⟨0,reply0⟩
def state0:State:=⟨vol0,[]⟩
def kept0:Kept:=⟨0,0,false,[],0⟩
def replica0:Replica:=⟨0,kept0,[],[],[],[]⟩
def msg0:Message:=⟨0,0,0,0,0,0,0,[]⟩
def b8 (n:Int):UInt8:=UInt8.ofNat (n % 256).toNat
def numBytes (n:Int):Str:=⟨#[b8 (n / 16777216),b8 (n / 65536),b8 (n / 256),b8 n]⟩
def number (n:Int):Str × Int:=if n < 0\/1073741824 < n then (str0,2) else (numBytes n,0)
def textBytes (s:Str):Str:=⟨#[b8 s.size]⟩ ++ s
def text (s:Str):Str × Int:=if 255 < s.size then (str0,1) else (textBytes s,0)
def byteAt (s:Str) (i:Nat):Int:=((s.data.toList.getD i 0).toNat:Int)
def num4 (s:Str):Int:=byteAt s 0*16777216+byteAt s 1*65536+byteAt s 2*256+byteAt s 3
def dropS (s:Str) (k:Nat):Str:=s.extract k s.size
def readNumber (s:Str):Int × Str × Int :=
 if s.size < 4 then (0,str0,5)
 else if 1073741824 < num4 s then (0,str0,4)
 else (num4 s,dropS s 4,0)
def readText (s:Str):Str × Str × Int :=
 if s.size=0 then (str0,str0,5)
 else if (s.size:Int) - 1 < byteAt s 0 then (str0,str0,5)
 else (s.extract 1 (1+byteAt s 0).toNat,dropS s (1+byteAt s 0).toNat,0)
def sealStep (p:Int × Int) (b:UInt8):Int × Int :=
 let x:=(p.1+b.toNat) % 65521
 (x,(p.2+x) % 65521)
def sealXY (l:List UInt8):Int × Int:=l.foldl sealStep (1,0)
def sealS (s:Str):Str :=
 let p:=sealXY s.data.toList
 ⟨#[b8 (p.2 / 256),b8 p.2,b8 (p.1 / 256),b8 p.1]⟩
def volNew:Volume:=⟨List.replicate 6 str0,[]⟩
def sectorsOk (l:List Str):Bool:=l.length == 6 && l.all fun s=>decide (s.size<=8)
def volOk (v:Volume):Bool:=sectorsOk v.now && decide (v.snaps.length<=3) && v.snaps.all sectorsOk
def volFault (v:Volume):Int:=if volOk v then 0 else 8
def opFault (o:Op):Int :=
 if o.kind < 1\/4 < o.kind then 3
 else if o.at_ < 0\/6<=o.at_\/o.snap < 0\/3 < o.snap then 2
 else if (o.kind≠3/\o.snap≠0)\/(o.kind=4/\o.at_≠0)\/(o.kind≠1/\o.data.size≠0) then 4
 else if 8 < o.data.size then 1 else 0
def doIt (v:Volume) (o:Op):Volume × Reply :=
 if o.kind=1\/o.kind=2 then (⟨v.now.set o.at_.toNat o.data,v.snaps⟩,reply0)
 else if o.kind=4 then
  if v.snaps.length=3 then (v,{ reply0 with code:=7 }) else (⟨v.now,v.snaps ++ [v.now]⟩,{ reply0 with n:=v.snaps.length+1 })
 else if o.snap=0 then (v,{ reply0 with data:=v.now.getD o.at_.toNat str0 })
 else if (v.snaps.length:Int) < o.snap then (v,{ reply0 with code:=6 })
 else (v,{ reply0 with data:=(v.snaps.getD (o.snap - 1).toNat []).getD o.at_.toNat str0 })
def volDo (v:Volume) (o:Op):Volume × Reply × Int :=
 if volFault v≠0 then (vol0,reply0,volFault v)
 else if opFault o≠0 then (vol0,reply0,opFault o)
 else ((doIt v o).1,(doIt v o).2,0)
def reqFault (r:Request):Int:=if r.client < 1\/4 < r.client\/r.num < 1\/1048576 < r.num then 2 else opFault r.op
def reqBytes (r:Request):Str:=⟨#[b8 r.client,b8 r.op.kind,b8 r.op.at_,b8 r.op.snap]⟩ ++ numBytes r.num ++ textBytes r.op.data
def encode (r:Request):Str × Int:=if reqFault r≠0 then (str0,reqFault r) else (reqBytes r,0)
def decode (s:Str):Request × Int :=
 if 40 < s.size then (req0,1)
 else if s.size < 4 then (req0,5)
 else
  let a:=readNumber (dropS s 4)
  if a.2.2≠0 then (req0,a.2.2) else
  let b:=readText a.2.1
  if b.2.2≠0 then (req0,b.2.2) else
  if b.2.1≠str0 then (req0,4) else
  let r:Request:=⟨byteAt s 0,a.1,⟨byteAt s 1,byteAt s 2,byteAt s 3,b.1⟩⟩
  if reqFault r≠0 then (req0,reqFault r) else (r,0)
def stateNew:State:=⟨volNew,List.replicate 4 last0⟩
def lastsOk (l:List Last):Bool:=l.length == 4 && l.all fun x=>decide (0<=x.num) && decide (x.num<=1048576)
def stateFault (s:State):Int:=if lastsOk s.lasts then volFault s.volume else 8
def applyIt (s:State) (r:Request):State :=
 if r.num<=(s.lasts.getD (r.client - 1).toNat last0).num then s
 else ⟨(doIt s.volume r.op).1,s.lasts.set (r.client - 1).toNat ⟨r.num,(doIt s.volume r.op).2⟩⟩
def apply (s:State) (e:Str):State × Int :=
 if stateFault s≠0 then (state0,stateFault s)
 else if (decode e).2≠0 then (state0,(decode e).2)
 else (applyIt s (decode e).1,0)
def playFrom (s:State):List Str->State × Int
 | []=>(s,0)
 | e :: l=>if (apply s e).2≠0 then (state0,(apply s e).2) else playFrom (apply s e).1 l
def play (l:List Str):State × Int:=playFrom stateNew l
def logFault:List Str->Int
 | []=>0
 | e :: l=>if (decode e).2≠0 then (decode e).2 else logFault l
def keptFault (k:Kept):Int :=
 if k.view < 0\/1048576 < k.view\/k.normal < 0\/k.view < k.normal\/(k.calm=true/\k.normal≠k.view) then 2
 else if 60 < k.log.length then 1
 else if k.commit < 0\/(k.log.length:Int) < k.commit then 2
 else logFault k.log
def catS:List Str->Str
 | []=>str0
 | s :: l=>s ++ catS l
def keptBody (k:Kept) (gen:Int):Str :=
 numBytes gen ++ numBytes k.view ++ numBytes k.normal ++ numBytes (if k.calm then 1 else 0) ++ numBytes k.commit ++ numBytes k.log.length ++ catS (k.log.map textBytes)
def keptBytes (k:Kept) (gen:Int):Str:=sealS (keptBody k gen) ++ keptBody k gen
def stageEncode (k:Kept) (gen:Int):Str × Int :=
 if keptFault k≠0 then (str0,keptFault k)
 else if gen < 0\/1073741824 < gen then (str0,2)
 else (keptBytes k gen,0)
def readNumbers:Nat->Str->List Int × Str × Int
 | 0,s=>([],s,0)
 | n+1,s =>
   let a:=readNumber s
   if a.2.2≠0 then ([],str0,a.2.2) else
   let b:=readNumbers n a.2.1
   if b.2.2≠0 then ([],str0,b.2.2) else (a.1 :: b.1,b.2.1,0)
def readTexts:Nat->Str->List Str × Str × Int
 | 0,s=>([],s,0)
 | n+1,s =>
   let a:=readText s
   if a.2.2≠0 then ([],str0,a.2.2) else
   let b:=readTexts n a.2.1
   if b.2.2≠0 then ([],str0,b.2.2) else (a.1 :: b.1,b.2.1,0)
def stageDecode (s:Str):Kept × Int × Int :=
 if 4000 < s.size then (kept0,0,1)
 else if s.size < 4 then (kept0,0,5)
 else if sealS (dropS s 4)≠s.extract 0 4 then (kept0,0,11)
 else
  let a:=readNumbers 6 (dropS s 4)
  if a.2.2≠0 then (kept0,0,a.2.2) else
  let l:=a.1
  if 1 < l.getD 3 0\/60 < l.getD 5 0 then (kept0,0,4) else
  let b:=readTexts (l.getD 5 0).toNat a.2.1
  if b.2.2≠0 then (kept0,0,b.2.2) else
  if b.2.1≠str0 then (kept0,0,4) else
  let k:Kept:=⟨l.getD 1 0,l.getD 2 0,l.getD 3 0 == 1,b.1,l.getD 4 0⟩
  if keptFault k≠0 then (kept0,0,keptFault k) else (k,l.getD 0 0,0)
def keptNew:Kept:={ kept0 with calm:=true }
def stageNew:List Str:=[keptBytes keptNew 0,str0]
def load (l:List Str):Kept × Int × Int × Int :=
 if l.length≠2 then (kept0,0,0,4) else
 let a:=stageDecode (l.getD 0 str0)
 let b:=stageDecode (l.getD 1 str0)
 if a.2.2≠0/\b.2.2≠0 then (kept0,0,0,13)
 else if a.2.2≠0\/(b.2.2=0/\a.2.1 < b.2.1) then (b.1,b.2.1,1,0)
 else (a.1,a.2.1,0,0)
def upTo (s:Str) (n:Int):Str:=if 0<=n/\n < s.size then s.extract 0 n.toNat else s
def store (l:List Str) (k:Kept) (upto:Int):List Str × Int :=
 let a:=load l
 if a.2.2.2≠0 then ([],a.2.2.2)
 else if a.2.1=1073741824 then ([],7)
 else if keptFault k≠0 then ([],keptFault k)
 else if upto < -1 then ([],2)
 else (l.set (1 - a.2.2.1).toNat (upTo (keptBytes k (a.2.1+1)) upto),0)
def repNew (me:Int) (k:Kept):Replica × Int :=
 if me < 0\/3<=me then (replica0,2)
 else if keptFault k≠0 then (replica0,keptFault k)
 else (⟨me,k,[0,0,0],[false,false,false],[kept0,kept0,kept0],[false,false,false]⟩,0)
def repFault (r:Replica):Int :=
 if r.me < 0\/3<=r.me then 2
 else if r.have_.length≠3\/r.wants.length≠3\/r.gives.length≠3\/r.given.length≠3 then 8
 else if r.have_.any (fun h=>decide (h < 0) || decide ((r.kept.log.length:Int) < h)) || r.gives.any (fun g=>decide (keptFault g≠0)) then 8
 else keptFault r.kept
def leader (view:Int):Int:=view % 3
def leads (r:Replica):Bool:=r.kept.calm && decide (leader r.kept.view=r.me)
def msgFault (m:Message):Int :=
 if m.kind < 1\/4 < m.kind then 3
 else if m.from_ < 0\/3<=m.from_\/m.tq < 0\/3<=m.tq\/m.from_=m.tq\/m.view < 0\/1048576 < m.view\/m.n < 0\/60 < m.n then 2
 else if (m.kind≠4/\m.normal≠0)\/(m.kind≠2/\m.n≠0)\/((m.kind=2\/m.kind=3)/\(m.commit≠0\/m.log≠[])) then 4
 else if (m.kind=1/\m.from_≠leader m.view)\/((m.kind=2\/m.kind=4)/\m.tq≠leader m.view) then 4
 else keptFault ⟨m.view,m.normal,false,m.log,m.commit⟩
def toAll (me view:Int) (m:Message):List Message :=
 ([0,1,2].filter fun i=>decide (i≠me)).map fun i=>{ m with from_:=me,tq:=i,view:=view }
def fresh (r:Replica):Replica :=
 { r with have_:=[0,0,0],wants:=[false,false,false],gives:=[kept0,kept0,kept0],given:=[false,false,false] }
def leadOn (r:Replica):List Message:=toAll r.me r.kept.view { msg0 with kind:=1,commit:=r.kept.commit,log:=r.kept.log }
def want (r:Replica) (view:Int):Replica × List Message :=
 let r1:=fresh { r with kept:={ r.kept with view:=view,calm:=false } }
 let r2:={ r1 with wants:=r1.wants.set r.me.toNat true }
 (r2,toAll r.me view { msg0 with kind:=3 })
def own (k:Kept):Kept:={ k with calm:=false }
def better (a b:Kept):Bool:=decide (b.normal < a.normal) || (decide (a.normal=b.normal) && decide (b.log.length < a.log.length))
def bestOf (l:List (Kept × Bool)):Kept:=l.foldl (fun b g=>if g.2 && better g.1 b then g.1 else b) { kept0 with normal:=-1 }
def maxCommit (l:List (Kept × Bool)):Int:=l.foldl (fun c g=>if g.2 then max c g.1.commit else c) 0
def begun (r:Replica):Replica × List Message :=
 if r.given.getD r.me.toNat false=false then (r,[])
 else if r.given.countP id < 2 then (r,[])
 else
  let l:=r.gives.zip r.given
  let b:=bestOf l
  let r1:=fresh { r with kept:=⟨r.kept.view,r.kept.view,true,b.log,min (maxCommit l) b.log.length⟩ }
  (r1,leadOn r1)
def give1 (r:Replica) (i:Int) (k:Kept):Replica :=
 { r with gives:=r.gives.set i.toNat (own k),given:=r.given.set i.toNat true }
def take1 (r:Replica) (i:Int) (k:Kept):Replica × List Message:=begun (give1 r i k)
def hearLead (r:Replica) (m:Message):Replica × List Message :=
 let k:=r.kept
 let r1 :=
  if k.view < m.view\/k.calm=false then
   fresh { r with kept:=⟨m.view,m.view,true,m.log,max m.commit (min k.commit m.log.length)⟩ }
  else if k.log.length < m.log.length then { r with kept:={ k with log:=m.log } } else r
 let r2:={ r1 with kept:={ r1.kept with commit:=max r1.kept.commit (min m.commit r1.kept.log.length) } }
 (r2,[{ msg0 with kind:=2,from_:=r.me,tq:=m.from_,view:=r2.kept.view,n:=r2.kept.log.length }])
def hearHas (r:Replica) (m:Message):Replica × List Message :=
 if m.view≠r.kept.view\/leads r=false then (r,[])
 else
  let n:=min m.n r.kept.log.length
  let r1:={ r with have_:=r.have_.set m.from_.toNat (max (r.have_.getD m.from_.toNat 0) n) }
  if r.kept.commit < n then
   let r2:={ r1 with kept:={ r.kept with commit:=n } }
   (r2,leadOn r2)
  else (r1,[])
def wantIf (r:Replica) (v:Int):Replica × List Message:=if r.kept.view < v then want r v else (r,[])
def hearWant (r:Replica) (m:Message):Replica × List Message :=
 let a:=wantIf r m.view
 if a.1.kept.calm=true\/a.1.wants.getD m.from_.toNat false=true then a
 else
  let r1:={ a.1 with wants:=a.1.wants.set m.from_.toNat true }
  let tq:=leader r1.kept.view
  if tq=r1.me then
   let b:=take1 r1 tq r1.kept
   (b.1,a.2 ++ b.2)
  else (r1,a.2 ++ [{ msg0 with kind:=4,from_:=r1.me,tq:=tq,view:=r1.kept.view,normal:=r1.kept.normal,commit:=r1.kept.commit,log:=r1.kept.log }])
def hearGive (r:Replica) (m:Message):Replica × List Message :=
 let a:=wantIf r m.view
 if a.1.kept.calm=true then a
 else
  let r1:=if a.1.given.getD a.1.me.toNat false=false then give1 a.1 a.1.me a.1.kept else a.1
  let b:=take1 r1 m.from_ ⟨m.view,m.normal,false,m.log,m.commit⟩
  (b.1,a.2 ++ b.2)
def hearIt (r:Replica) (m:Message):Replica × List Message :=
 if m.kind=1 then hearLead r m else if m.kind=2 then hearHas r m else if m.kind=3 then hearWant r m else hearGive r m
def hear (r:Replica) (m:Message):Replica × List Message × Int :=
 if repFault r≠0 then (replica0,[],repFault r)
 else if msgFault m≠0 then (replica0,[],msgFault m)
 else if m.tq≠r.me then (replica0,[],6)
 else if m.view < r.kept.view then (replica0,[],9)
 else ((hearIt r m).1,(hearIt r m).2,0)
def take (r:Replica) (e:Str):Replica × List Message × Int :=
 if repFault r≠0 then (replica0,[],repFault r)
 else if leads r=false then (replica0,[],14)
 else if r.kept.log.length=60 then (replica0,[],7)
 else if (decode e).2≠0 then (replica0,[],(decode e).2)
 else
  let r1:={ r with kept:={ r.kept with log:=r.kept.log ++ [e] } }
  (r1,leadOn r1,0)
def tick (r:Replica):Replica × List Message × Int :=
 if repFault r≠0 then (replica0,[],repFault r)
 else if leads r=true then (r,leadOn r,0)
 else if r.kept.calm=true then (r,[{ msg0 with kind:=2,from_:=r.me,tq:=leader r.kept.view,view:=r.kept.view,n:=r.kept.log.length }],0)
 else
  let r1:={ r with wants:=r.wants.set r.me.toNat true }
  (r1,toAll r.me r.kept.view { msg0 with kind:=3 },0)
def alarm (r:Replica):Replica × List Message × Int :=
 if repFault r≠0 then (replica0,[],repFault r)
 else if r.kept.view=1048576 then (replica0,[],7)
 else ((want r (r.kept.view+1)).1,(want r (r.kept.view+1)).2,0)
structure Net where
 replicas:List Replica
 slots:List (List Str)
 flying:List Message
 clients:List Customer
 told:List Told
deriving DecidableEq
def sendAll (f l:List Message):List Message:=l.foldl (fun f m=>if f.length < 80 then f ++ [m] else f) f
def crash (x:Net) (r:Nat):Net × Int :=
 let a:=load (x.slots.getD r [])
 if a.2.2.2≠0 then (x,a.2.2.2)
 else
  let b:=repNew r a.1
  ({ x with replicas:=x.replicas.set r b.1 },b.2)
def settle (x:Net) (r:Nat) (next:Replica) (out:List Message) (upto:Int):Net × Int :=
 if next.kept=(x.replicas.getD r replica0).kept/\upto < 0 then
  ({ x with replicas:=x.replicas.set r next,flying:=sendAll x.flying out },0)
 else
  let a:=store (x.slots.getD r []) next.kept upto
  if a.2≠0 then (x,a.2)
  else
   let y:={ x with slots:=x.slots.set r a.1 }
   if 0<=upto then crash y r
   else ({ y with replicas:=y.replicas.set r next,flying:=sendAll y.flying out },0)
def actMessage (x:Net) (a:Act):Net × Int :=
 if a.k < 0\/(x.flying.length:Int)<=a.k then (x,6)
 else
  let m:=x.flying.getD a.k.toNat msg0
  if a.kind=8 then
   if x.flying.length=80 then (x,7) else ({ x with flying:=x.flying ++ [m] },0)
  else if a.kind=10/\(a.n < 0\/4000 < a.n) then (x,2)
  else
   let y:={ x with flying:=x.flying.eraseIdx a.k.toNat }
   if a.kind=7 then (y,0)
   else
    let h:=hear (x.replicas.getD m.tq.toNat replica0) m
    if h.2.2≠0 then (y,h.2.2)
    else settle y m.tq.toNat h.1 h.2.1 (if a.kind=10 then a.n else -1)
def actAt (x:Net) (a:Act):Net × Int :=
 if a.r < 0\/3<=a.r then (x,6)
 else if a.kind=9 then crash x a.r.toNat
 else
  let h:=if a.kind=5 then alarm (x.replicas.getD a.r.toNat replica0) else tick (x.replicas.getD a.r.toNat replica0)
  if h.2.2≠0 then (x,h.2.2)
  else settle x a.r.toNat h.1 h.2.1 (-1)
def cust0:Customer:=⟨0,0,req0⟩
def answer (x:Net) (c:Nat) (r:Replica):Net × Int :=
 let cu:=x.clients.getD c cust0
 if leads r=false then (x,14)
 else
  let s:=play (r.kept.log.take r.kept.commit.toNat)
  if s.2≠0 then (x,s.2)
  else
   let l:=s.1.lasts.getD (cu.id - 1).toNat last0
   if l.num≠cu.wait.num then (x,12)
   else ({ x with told:=x.told ++ [⟨cu.wait,l.reply⟩],clients:=x.clients.set c { cu with wait:=req0 } },0)
def actBy (x:Net) (a:Act):Net × Int :=
 if a.c < 0\/(x.clients.length:Int)<=a.c then (x,6)
 else
  let c:=x.clients.getD a.c.toNat cust0
  if a.kind=1 then
   if 0 < c.wait.num then (x,12)
   else if opFault a.op≠0 then (x,opFault a.op)
   else ({ x with clients:=x.clients.set a.c.toNat ⟨c.id,c.next+1,⟨c.id,c.next,a.op⟩⟩ },0)
  else if c.wait.num=0 then (x,9)
  else if a.r < 0\/3<=a.r then (x,6)
  else if a.kind=3 then answer x a.c.toNat (x.replicas.getD a.r.toNat replica0)
  else
   let s:=encode c.wait
   if s.2≠0 then (x,s.2)
   else
    let h:=take (x.replicas.getD a.r.toNat replica0) s.1
    if h.2.2≠0 then (x,h.2.2)
    else settle x a.r.toNat h.1 h.2.1 (-1)
def act (x:Net) (a:Act):Net × Int :=
 if a.kind=1\/a.kind=2\/a.kind=3 then actBy x a
 else if a.kind=4\/a.kind=5\/a.kind=9 then actAt x a
 else if a.kind=6\/a.kind=7\/a.kind=8\/a.kind=10 then actMessage x a
 else (x,3)
def netNew (clients:Nat):Net :=
 ⟨[(repNew 0 keptNew).1,(repNew 1 keptNew).1,(repNew 2 keptNew).1],[stageNew,stageNew,stageNew],[],
  (List.range clients).map fun c:Nat=>⟨(c:Int)+1,1,req0⟩,[]⟩
def steps (x:Net):List Act->Net × List Int
 | []=>(x,[])
 | a :: l=>((steps (act x a).1 l).1,(act x a).2 :: (steps (act x a).1 l).2)
def outcome0:Outcome:=⟨[],[],[],[],[],[]⟩
def run (clients:Int) (l:List Act):Outcome × Int :=
 if clients < 1\/4 < clients then (outcome0,2)
 else if 300 < l.length then (outcome0,1)
 else
  let s:=steps (netNew clients.toNat) l
  (⟨s.1.replicas,s.1.slots,s.1.flying,s.1.clients,s.1.told,s.2⟩,0)
end Scu
namespace Scu
def L (s:Str):List UInt8:=s.data.toList
theorem zQv {s t:Str} (h:L s=L t):s=t:=by
 apply ByteArray.ext
 exact Array.toList_inj.1 h
theorem zGr (s t:Str):L (s ++ t)=L s ++ L t:=by
 simp [L,ByteArray.data_append]
theorem zLq (s:Str):(L s).length=s.size:=by simp [L]
theorem zQw:L str0=[]:=rfl
theorem L_mk (l:List UInt8):L ⟨l.toArray⟩=l:=rfl
theorem size_zero_iff (s:Str):s.size=0↔s=str0:=by
 constructor
 ·intro h;apply zQv
  rw [zQw];exact List.length_eq_zero_iff.1 (by rw [zLq];exact h)
 rintro rfl;rfl
theorem zIu (s:Str):str0 ++ s=s:=zQv (by rw [zGr,zQw,List.nil_append])
theorem zIv (s:Str):s ++ str0=s:=zQv (by rw [zGr,zQw,List.append_nil])
theorem zEe (a b c:Str):a ++ b ++ c=a ++ (b ++ c):=zQv (by simp only [zGr,List.append_assoc])
theorem zDv (s:Str) (i:Nat):0<=byteAt s i/\byteAt s i < 256:=by
 unfold byteAt;have:=(s.data.toList.getD i 0).toNat_lt;omega
theorem numBytes_size (n:Int):(numBytes n).size=4:=rfl
theorem zPn (s:Str):0<=num4 s/\num4 s < 4294967296:=by
 unfold num4;have:=zDv s 0;have:=zDv s 1;have:=zDv s 2;have:=zDv s 3;omega
theorem textBytes_size (s:Str):(textBytes s).size=1+s.size:=by
 unfold textBytes;rw [ByteArray.size_append];rfl
def Pre (p s:Str):Prop:=L p <+: L s
theorem Pre.size {p s:Str} (h:Pre p s):p.size<=s.size:=by
 have:=List.IsPrefix.length_le h;rwa [zLq,zLq] at this
theorem Pre.split {p a b:Str} (h:Pre p (a ++ b)) (hs:a.size<=p.size):∃ q,p=a ++ q/\Pre q b:=by
 unfold Pre at h;rw [zGr] at h;have ha:L a <+: L p:=List.prefix_of_prefix_length_le (List.prefix_append _ _) h (by rw [zLq,zLq];exact hs);obtain ⟨t,ht⟩:=ha;refine ⟨⟨t.toArray⟩,zQv (by rw [zGr,L_mk];exact ht.symm),?_⟩;unfold Pre;rw [L_mk];rw [<- ht] at h;exact (List.prefix_append_right_inj (L a)).1 h
theorem zNe {s:Str} (h:(decode s).2=0):s.size<=40:=by
 unfold decode at h;split at h
 ·simp at h
 omega
theorem opFault_ok {o:Op} (h:opFault o=0):1<=o.kind/\o.kind<=4/\0<=o.at_/\o.at_ < 6/\0<=o.snap/\o.snap<=3/\o.data.size<=8 /\
 (o.kind≠3->o.snap=0)/\(o.kind=4->o.at_=0)/\(o.kind≠1->o.data=str0):=by
 unfold opFault at h;split at h
 ·omega
 split at h
 ·omega
 split at h
 ·omega
 split at h
 ·omega
 rename_i h1 h2 h3 h4
 refine ⟨by omega,by omega,by omega,by omega,by omega,by omega,by omega,by omega,by omega,fun hk=>?_⟩;apply (size_zero_iff _).1
 omega
theorem reqFault_ok {r:Request} (h:reqFault r=0):1<=r.client/\r.client<=4/\1<=r.num/\r.num<=1048576/\opFault r.op=0:=by
 unfold reqFault at h;split at h
 ·omega
 exact ⟨by omega,by omega,by omega,by omega,h⟩
theorem reqBytes_size (r:Request):(reqBytes r).size=9+r.op.data.size:=by
 unfold reqBytes;rw [ByteArray.size_append,ByteArray.size_append,numBytes_size,textBytes_size];show 4+4+_=_
 omega
theorem zIw:∀ {l:List Str},logFault l=0->∀ e ∈ l,(decode e).2=0
 | [],_,_,he=>by simp at he
 | x :: l,h,e,he=>by
   unfold logFault at h;split at h
   ·exact absurd h (by assumption)
   ·rcases List.mem_cons.1 he with rfl | he
    ·omega
    exact zIw h e he
theorem zIx:∀ {l:List Str},(∀ e ∈ l,(decode e).2=0)->logFault l=0
 | [],_=>rfl
 | x :: l,h=>by
   unfold logFault;rw [if_neg (by have:=h x List.mem_cons_self;omega)];exact zIx fun e he=>h e (List.mem_cons_of_mem _ he)
theorem keptFault_ok {k:Kept} (h:keptFault k=0):0<=k.view/\k.view<=1048576/\0<=k.normal/\k.normal<=k.view/\(k.calm=true->k.normal=k.view) /\
 k.log.length<=60/\0<=k.commit/\k.commit<=k.log.length/\∀ e ∈ k.log,(decode e).2=0:=by
 unfold keptFault at h;split at h
 ·omega
 split at h
 ·omega
 split at h
 ·omega
 rename_i h1 h2 h3
 refine ⟨by omega,by omega,by omega,by omega,fun hc=>?_,by omega,by omega,by omega,zIw h⟩;apply Classical.byContradiction
 intro hn;exact h1 (.inr (.inr (.inr (.inr ⟨hc,hn⟩))))
theorem zBy {k:Kept} (h1:0<=k.view) (h2:k.view<=1048576) (h3:0<=k.normal) (h4:k.normal<=k.view) (h5:k.calm=true->k.normal=k.view)
 (h6:k.log.length<=60) (h7:0<=k.commit) (h8:k.commit<=k.log.length) (h9:∀ e ∈ k.log,(decode e).2=0):keptFault k=0:=by
 unfold keptFault;rw [if_neg,if_neg (by omega),if_neg (by omega)]
 ·exact zIx h9
 rintro (h | h | h | h | ⟨h,h'⟩)
 ·omega
 ·omega
 ·omega
 ·omega
 exact h' (h5 h)
theorem zNf (p:Int × Int) (b:UInt8) (_h:0<=p.1/\0<=p.2):0<=(sealStep p b).1/\(sealStep p b).1 < 65521/\0<=(sealStep p b).2/\(sealStep p b).2 < 65521:=by
 unfold sealStep;simp only
 omega
theorem sealXY_bd (l:List UInt8):0<=(sealXY l).1/\(sealXY l).1 < 65521/\0<=(sealXY l).2/\(sealXY l).2 < 65521:=by
 unfold sealXY;have:∀ (l:List UInt8) (p:Int × Int),(0<=p.1/\p.1 < 65521/\0<=p.2/\p.2 < 65521)->(0<=(l.foldl sealStep p).1/\(l.foldl sealStep p).1 < 65521/\0<=(l.foldl sealStep p).2/\(l.foldl sealStep p).2 < 65521):=by
  intro l;induction l with
  | nil=>intro p h;exact h
  | cons b l ih=>intro p h;exact ih _ (zNf p b ⟨h.1,h.2.2.1⟩)
 exact this l (1,0) (by simp)
theorem sealS_size (s:Str):(sealS s).size=4:=rfl
theorem zIy (a b:List Str):catS (a ++ b)=catS a ++ catS b:=by
 induction a with
 | nil=>simp [catS,zIu]
 | cons x a ih=>simp [catS,ih,zEe]
def nums (k:Kept) (gen:Int):List Int:=[gen,k.view,k.normal,if k.calm then 1 else 0,k.commit,k.log.length]
theorem zIz (k:Kept) (gen:Int):keptBody k gen=catS ((nums k gen).map numBytes) ++ catS (k.log.map textBytes):=by
 unfold keptBody nums;simp only [List.map_cons,List.map_nil,catS,zEe,zIu]
theorem nums_bd {k:Kept} (h:keptFault k=0) {gen:Int} (h0:0<=gen) (h1:gen<=1073741824):∀ n ∈ nums k gen,0<=n/\n<=1073741824:=by
 obtain ⟨k1,k2,k3,k4,k5,k6,k7,k8,k9⟩:=keptFault_ok h;intro n hn;simp only [nums,List.mem_cons,List.not_mem_nil,or_false] at hn
 rcases hn with rfl | rfl | rfl | rfl | rfl | rfl
 ·omega
 ·omega
 ·omega
 ·split <;> omega
 ·omega
 omega
theorem zGh (l:List Int):(catS (l.map numBytes)).size=4*l.length:=by
 induction l with
 | nil=>rfl
 | cons n l ih=>simp only [List.map_cons,catS,ByteArray.size_append,ih,numBytes_size,List.length_cons];omega
theorem zFh (l:List Str) (h:∀ s ∈ l,s.size<=40):(catS (l.map textBytes)).size<=41*l.length:=by
 induction l with
 | nil=>simp [catS,str0]
 | cons s l ih =>
   have:=ih (fun x hx=>h x (List.mem_cons_of_mem _ hx));have:=h s List.mem_cons_self;simp only [List.map_cons,catS,ByteArray.size_append,textBytes_size,List.length_cons];omega
theorem log_small {k:Kept} (h:keptFault k=0):∀ s ∈ k.log,s.size<=40:=fun s hs=>zNe ((keptFault_ok h).2.2.2.2.2.2.2.2 s hs)
theorem zKv {k:Kept} (h:keptFault k=0) (gen:Int):24<=(keptBody k gen).size/\(keptBody k gen).size<=2484:=by
 rw [zIz,ByteArray.size_append,zGh];have:=zFh k.log (log_small h);have:=(keptFault_ok h).2.2.2.2.2.1;simp only [nums,List.length_cons,List.length_nil]
 omega
theorem zEf {k:Kept} (h:keptFault k=0) (gen:Int):28<=(keptBytes k gen).size/\(keptBytes k gen).size<=2488:=by
 unfold keptBytes;rw [ByteArray.size_append,sealS_size];have:=zKv h gen;omega
end Scu
namespace Scu
def InR (j:Int):Prop:=0<=j/\j < 3
theorem zLr (v:Int):InR (leader v):=by unfold InR leader;omega
theorem repFault_ok {r:Replica} (h:repFault r=0):InR r.me/\r.have_.length=3/\r.wants.length=3/\r.gives.length=3/\r.given.length=3 /\
 (∀ x ∈ r.have_,0<=x/\x<=r.kept.log.length)/\(∀ g ∈ r.gives,keptFault g=0)/\keptFault r.kept=0:=by
 unfold repFault at h;split at h
 ·omega
 split at h
 ·omega
 split at h
 ·omega
 rename_i h1 h2 h3
 simp only [Bool.or_eq_true,List.any_eq_true,decide_eq_true_eq,not_or,not_exists,not_and] at h3
 refine ⟨by unfold InR;omega,by omega,by omega,by omega,by omega,fun x hx=>?_,fun g hg=>?_,h⟩
 ·have:=h3.1 x hx;omega
 have:=h3.2 g hg;omega
theorem msgFault_ok {m:Message} (h:msgFault m=0):1<=m.kind/\m.kind<=4/\InR m.from_/\InR m.tq/\m.from_≠m.tq/\0<=m.view/\m.view<=1048576/\0<=m.n /\
 (m.kind=1->m.from_=leader m.view)/\(m.kind=2->m.tq=leader m.view)/\(m.kind=4->m.tq=leader m.view) /\
 keptFault ⟨m.view,m.normal,false,m.log,m.commit⟩=0:=by
 unfold msgFault at h;split at h
 ·omega
 split at h
 ·omega
 split at h
 ·omega
 split at h
 ·omega
 unfold InR;refine ⟨by omega,by omega,by omega,by omega,by omega,by omega,by omega,by omega,by omega,by omega,by omega,h⟩
def Lk (k:Kept):Prop:=0<=k.view/\0<=k.commit/\k.commit<=k.log.length
theorem rep_lk {r:Replica} (h:repFault r=0):Lk r.kept :=
 have k:=keptFault_ok (repFault_ok h).2.2.2.2.2.2.2
 ⟨k.1,k.2.2.2.2.2.2.1,k.2.2.2.2.2.2.2.1⟩
theorem zCh {r:Replica} (h1:InR r.me) (h2:r.have_.length=3) (h3:r.wants.length=3) (h4:r.gives.length=3) (h5:r.given.length=3)
 (h6:∀ x ∈ r.have_,0<=x/\x<=r.kept.log.length) (h7:∀ g ∈ r.gives,keptFault g=0) (h8:keptFault r.kept=0):repFault r=0:=by
 unfold repFault;rw [if_neg (by unfold InR at h1;omega),if_neg (by omega),if_neg,h8];simp only [Bool.or_eq_true,List.any_eq_true,decide_eq_true_eq,not_or,not_exists,not_and]
 refine ⟨fun x hx=>?_,fun g hg=>?_⟩
 ·have:=h6 x hx;omega
 have:=h7 g hg;omega
theorem zEu {r:Replica} (h1:InR r.me) (h8:keptFault r.kept=0):repFault (fresh r)=0:=by
 refine zCh h1 rfl rfl rfl rfl ?_ ?_ h8
 ·intro x hx;simp [fresh] at hx
  omega
 intro g hg;simp [fresh] at hg
 subst hg;decide
def Lo (o:Replica × List Message):Prop:=repFault o.1=0/\∀ m ∈ o.2,InR m.tq
theorem zFy (me v:Int) (m:Message):∀ x ∈ toAll me v m,InR x.tq:=by
 intro x h;unfold toAll at h;simp only [List.mem_map,List.mem_filter] at h
 obtain ⟨i,⟨h1,-⟩,rfl⟩:=h;simp at h1
 show InR i
 unfold InR;omega
theorem Lo.nil {r:Replica} (h:repFault r=0):Lo (r,[]):=⟨h,by simp⟩
theorem Lo.app {r q:Replica} {a b:List Message} (h:Lo (r,a)) (k:Lo (q,b)):Lo (q,a ++ b):=⟨k.1,fun m hm=>(List.mem_append.1 hm).elim (h.2 m) (k.2 m)⟩
theorem Lo.one {r:Replica} {m:Message} (h:repFault r=0) (hm:InR m.tq):Lo (r,[m]):=⟨h,by simpa using hm⟩
theorem zGk {r:Replica} (h:repFault r=0) {l:List Bool} (hl:l.length=3):repFault { r with wants:=l } = 0:=by
 obtain ⟨f1,f2,f3,f4,f5,f6,f7,f8⟩:=repFault_ok h;exact zCh f1 f2 hl f4 f5 f6 f7 f8
theorem zQx {r:Replica} {v:Int} (h:repFault r=0) (h1:r.kept.view < v) (h2:v<=1048576):Lo (want r v):=by
 obtain ⟨f1,f2,f3,f4,f5,f6,f7,f8⟩:=repFault_ok h;obtain ⟨k1,k2,k3,k4,k5,k6,k7,k8,k9⟩:=keptFault_ok f8;refine ⟨zGk (zEu (r:={ r with kept:={ r.kept with view:=v,calm:=false } }) f1 (zBy ?_ h2 k3 ?_ (fun hc=>by cases hc) k6 k7 k8 k9)) (by simp [fresh]),zFy _ _ _⟩
 ·show 0<=v
  omega
 show r.kept.normal<=v
 omega
theorem zLs {k:Kept} (h:keptFault k=0):keptFault (own k)=0:=by
 obtain ⟨k1,k2,k3,k4,k5,k6,k7,k8,k9⟩:=keptFault_ok h;exact zBy k1 k2 k3 k4 (fun hc=>by cases hc) k6 k7 k8 k9
theorem zGl {r:Replica} {i:Int} {k:Kept} (h:repFault r=0) (hk:keptFault (own k)=0):repFault (give1 r i k)=0:=by
 obtain ⟨f1,f2,f3,f4,f5,f6,f7,f8⟩:=repFault_ok h;exact zCh f1 f2 f3 (by simp [give1,f4]) (by simp [give1,f5]) f6 (fun g hg=>(List.mem_or_eq_of_mem_set hg).elim (f7 g) (fun e=>e ▸ hk)) f8
theorem zYm (l:List (Kept × Bool)):∀ c:Int,0<=c->0<=l.foldl (fun c g=>if g.2 then max c g.1.commit else c) c:=by
 induction l with
 | nil=>exact fun _ h=>h
 | cons g l ih =>
   intro c h;refine ih _ ?_;show 0<=if g.2=true then max c g.1.commit else c
   split <;> omega
theorem zWg (l:List (Kept × Bool)):∀ b:Kept,l.foldl (fun b g=>if g.2 && better g.1 b then g.1 else b) b=b\/∃ g ∈ l,l.foldl (fun b g=>if g.2 && better g.1 b then g.1 else b) b=g.1:=by
 induction l with
 | nil=>exact fun _=>.inl rfl
 | cons g l ih =>
   intro b;rw [List.foldl_cons];rcases ih (if g.2 && better g.1 b then g.1 else b) with h | ⟨q,hq,h⟩
   ·rw [h];split
    ·exact .inr ⟨g,List.mem_cons_self,rfl⟩
    exact .inl rfl
   ·exact .inr ⟨q,List.mem_cons_of_mem _ hq,h⟩
theorem zOg {r:Replica} (h:repFault r=0):Lo (begun r):=by
 obtain ⟨f1,f2,f3,f4,f5,f6,f7,f8⟩:=repFault_ok h;obtain ⟨k1,k2,k3,k4,k5,k6,k7,k8,k9⟩:=keptFault_ok f8;unfold begun;split
 ·exact Lo.nil h
 split
 ·exact Lo.nil h
 have hm:0<=maxCommit (r.gives.zip r.given):=zYm _ _ (Int.le_refl _);have hb:(bestOf (r.gives.zip r.given)).log.length<=60/\∀ e ∈ (bestOf (r.gives.zip r.given)).log,(decode e).2=0:=by
  unfold bestOf;rcases zWg (r.gives.zip r.given) { kept0 with normal:=-1 } with hb | ⟨g,hg,hb⟩
  ·rw [hb];simp [kept0]
  rw [hb];have k:=keptFault_ok (f7 _ (List.of_mem_zip hg).1);exact ⟨k.2.2.2.2.2.1,k.2.2.2.2.2.2.2.2⟩
 refine ⟨zEu f1 (zBy k1 k2 k1 (Int.le_refl _) (fun _=>rfl) hb.1 ?_ ?_ hb.2),zFy _ _ _⟩
 ·show 0<=min _ _
  omega
 show min (maxCommit (r.gives.zip r.given)) ((bestOf (r.gives.zip r.given)).log.length:Int)<=((bestOf (r.gives.zip r.given)).log.length:Int)
 omega
theorem zWh {r:Replica} {m:Message} (Ha:(hear r m).2.2=0):Lo ((hear r m).1,(hear r m).2.1):=by
 unfold hear at Ha ⊢;split at Ha
 ·exact absurd Ha (by assumption)
 split at Ha
 ·exact absurd Ha (by assumption)
 split at Ha
 ·simp at Ha
 split at Ha
 ·simp at Ha
 rename_i h1 h2 h3 h4
 rw [if_neg h1,if_neg h2,if_neg h3,if_neg h4];have h:repFault r=0:=by omega
 have hm:=msgFault_ok (m:=m) (by omega);obtain ⟨f1,f2,f3,f4,f5,f6,f7,f8⟩:=repFault_ok h;obtain ⟨k1,k2,k3,k4,k5,k6,k7,k8,k9⟩:=keptFault_ok f8;obtain ⟨q1,q2,q3,q4,q5,q6,q7,q8,q9⟩:=keptFault_ok hm.2.2.2.2.2.2.2.2.2.2.2;simp only at q1 q2 q3 q4 q6 q7 q8 q9
 have hw:Lo (wantIf r m.view):=by
  unfold wantIf;split
  ·exact zQx h (by assumption) q2
  exact Lo.nil h
 show Lo (hearIt r m)
 unfold hearIt;split
 ·unfold hearLead;simp only []
  refine Lo.one ?_ hm.2.2.1;split
  ·refine zEu (r:={ r with kept:=⟨m.view,m.view,true,m.log,max (max m.commit (min r.kept.commit m.log.length)) (min m.commit m.log.length)⟩ }) f1 (zBy q1 q2 q1 (Int.le_refl _) (fun _=>rfl) q6 ?_ ?_ q9)
   ·show 0<=max _ _
    omega
   show max (max m.commit _) (min m.commit (m.log.length:Int))<=(m.log.length:Int)
   omega
  split
  ·refine zCh f1 f2 f3 f4 f5 (fun x hx=>?_) f7 (zBy k1 k2 k3 k4 k5 q6 ?_ ?_ q9)
   ·have:=f6 x hx;show 0<=x/\x<=(m.log.length:Int)
    omega
   ·show 0<=max _ _
    omega
   show max r.kept.commit (min m.commit (m.log.length:Int))<=m.log.length
   omega
  refine zCh f1 f2 f3 f4 f5 f6 f7 (zBy k1 k2 k3 k4 k5 k6 ?_ ?_ k9)
  ·show 0<=max _ _
   omega
  show max r.kept.commit (min m.commit (r.kept.log.length:Int))<=r.kept.log.length
  omega
 split
 ·unfold hearHas;split
  ·exact Lo.nil h
  have hn:=hm.2.2.2.2.2.2.2.1;have hh:∀ x ∈ r.have_.set m.from_.toNat (max (r.have_.getD m.from_.toNat 0) (min m.n r.kept.log.length)),0<=x/\x<=(r.kept.log.length:Int):=by
   intro x hx;rcases List.mem_or_eq_of_mem_set hx with hx | rfl
   ·exact f6 x hx
   have:0<=r.have_.getD m.from_.toNat 0/\r.have_.getD m.from_.toNat 0<=(r.kept.log.length:Int):=by
    by_cases Hb:m.from_.toNat < r.have_.length
    ·have:=f6 _ (List.getElem_mem Hb);simpa [Hb] using this
    simp [Hb]
   omega
  simp only []
  split
  ·refine ⟨zCh f1 (by simp [f2]) f3 f4 f5 hh f7 (zBy k1 k2 k3 k4 k5 k6 ?_ ?_ k9),zFy _ _ _⟩
   ·show 0<=min m.n (r.kept.log.length:Int)
    omega
   show min m.n (r.kept.log.length:Int)<=r.kept.log.length
   omega
  exact Lo.nil (zCh f1 (by simp [f2]) f3 f4 f5 hh f7 f8)
 split
 ·unfold hearWant;generalize wantIf r m.view=x at *;obtain ⟨r1,o1⟩:=x;simp only at hw ⊢
  obtain ⟨-,-,g3,-,-,-,-,g8⟩:=repFault_ok hw.1;split
  ·exact hw
  have Hc:=zGk hw.1 (l:=r1.wants.set m.from_.toNat true) (by simp [g3]);split
  ·exact hw.app (zOg (zGl Hc (zLs g8)))
  exact hw.app (Lo.one Hc (zLr _))
 unfold hearGive;generalize wantIf r m.view=x at *;obtain ⟨r1,o1⟩:=x;simp only at hw ⊢
 split
 ·exact hw
 refine hw.app (zOg (zGl ?_ hm.2.2.2.2.2.2.2.2.2.2.2));split
 ·exact zGl hw.1 (zLs (repFault_ok hw.1).2.2.2.2.2.2.2)
 exact hw.1
theorem zWi {r:Replica} {e:Str} (Ha:(take r e).2.2=0):Lo ((take r e).1,(take r e).2.1):=by
 unfold take at Ha ⊢;split at Ha
 ·exact absurd Ha (by assumption)
 split at Ha
 ·simp at Ha
 split at Ha
 ·simp at Ha
 split at Ha
 ·exact absurd Ha (by assumption)
 rename_i h1 h2 h3 h4
 rw [if_neg h1,if_neg h2,if_neg h3,if_neg h4];obtain ⟨f1,f2,f3,f4,f5,f6,f7,f8⟩:=repFault_ok (r:=r) (by omega);obtain ⟨k1,k2,k3,k4,k5,k6,k7,k8,k9⟩:=keptFault_ok f8;have hl:(r.kept.log ++ [e]).length=r.kept.log.length+1:=by simp
 refine ⟨zCh f1 f2 f3 f4 f5 (fun x hx=>?_) f7 (zBy k1 k2 k3 k4 k5 ?_ k7 ?_ fun x hx=>?_),zFy _ _ _⟩
 ·have:=f6 x hx;show 0<=x/\x<=((r.kept.log ++ [e]).length:Int)
  omega
 ·show (r.kept.log ++ [e]).length<=60
  omega
 ·show r.kept.commit<=((r.kept.log ++ [e]).length:Int)
  omega
 rcases List.mem_append.1 hx with hx | hx
 ·exact k9 x hx
 rw [List.mem_singleton.1 hx];omega
theorem zWj {r:Replica} (Ha:(tick r).2.2=0):Lo ((tick r).1,(tick r).2.1):=by
 unfold tick at Ha ⊢;split at Ha
 ·exact absurd Ha (by assumption)
 rename_i h1
 rw [if_neg h1];have h:repFault r=0:=by omega
 split
 ·exact ⟨h,zFy _ _ _⟩
 split
 ·exact Lo.one h (zLr _)
 exact ⟨zGk h (by simp [(repFault_ok h).2.2.1]),zFy _ _ _⟩
theorem zSy {r:Replica} (Ha:(alarm r).2.2=0):Lo ((alarm r).1,(alarm r).2.1):=by
 unfold alarm at Ha ⊢;split at Ha
 ·exact absurd Ha (by assumption)
 split at Ha
 ·simp at Ha
 rename_i h1 h2
 rw [if_neg h1,if_neg h2];have h:repFault r=0:=by omega
 have k:=(keptFault_ok (repFault_ok h).2.2.2.2.2.2.2).2.1;exact zQx h (by omega) (by omega)
theorem zWk {l:List Str} (h:(load l).2.2.2=0):keptFault (load l).1=0:=by
 have hd:∀ s,(stageDecode s).2.2=0->keptFault (stageDecode s).1=0:=by
  intro s h;unfold stageDecode at h ⊢;dsimp only at h ⊢
  generalize readNumbers 6 (dropS s 4)=a at h ⊢;generalize readTexts (a.1.getD 5 0).toNat a.2.1=b at h ⊢;repeat' split
  all_goals first | (show keptFault kept0=0;rfl) | exact Decidable.not_not.1 (by assumption)
 unfold load at h ⊢;simp only [] at h ⊢
 split
 ·decide
 split
 ·decide
 split
 ·exact hd _ (by omega)
 exact hd _ (by omega)
structure Came (n:Nat) (x:Net):Prop where
 rlen:x.replicas.length=3/\x.slots.length=3
 rf:∀ r ∈ x.replicas,repFault r=0
 fly:x.flying.length<=80/\∀ m ∈ x.flying,InR m.tq
 told:x.told.length<=n
 few:x.clients.length<=4
 ids:∀ (c:Nat) (u:Customer),x.clients[c]? = some u->u.id=c+1/\1<=u.next/\u.next<=n+1/\(u.wait.num=0\/u.wait.client=c+1/\1<=u.wait.num/\u.wait.num<=n+1/\opFault u.wait.op=0)
theorem zHm:∀ (l f:List Message),(∀ m ∈ l,InR m.tq)->(f.length<=80/\∀ m ∈ f,InR m.tq)->(sendAll f l).length<=80/\∀ m ∈ sendAll f l,InR m.tq
 | [],f,_,h=>h
 | m :: l,f,hl,h=>by
   refine zHm l (if f.length < 80 then f ++ [m] else f) (fun x hx=>hl x (List.mem_cons_of_mem _ hx)) ?_;split
   ·refine ⟨by simp;omega,fun x hx=>?_⟩;rcases List.mem_append.1 hx with h' | h'
    ·exact h.2 x h'
    rw [List.mem_singleton] at h';rw [h'];exact hl m List.mem_cons_self
   ·exact h
section
variable {n:Nat} {x:Net}
theorem Came.put (h:Came n x) {r:Nat} {q:Replica} (hq:repFault q=0) {f:List Message} (hf:f.length<=80/\∀ m ∈ f,InR m.tq) {s:List (List Str)} (hs:s.length=3):Came n { x with replicas:=x.replicas.set r q,flying:=f,slots:=s } :=
 ⟨⟨by simp [h.rlen.1],hs⟩,fun y hy=>(List.mem_or_eq_of_mem_set hy).elim (h.rf y) (fun e=>e ▸ hq),hf,h.told,h.few,h.ids⟩
theorem zKa (h:Came n x) {r:Nat} (hr:r < 3):Came n (crash x r).1:=by
 unfold crash;simp only []
 split
 ·exact h
 rename_i hl
 refine h.put (f:=x.flying) (s:=x.slots) ?_ h.fly h.rlen.2;have hk:=zWk (l:=x.slots.getD r []) (by omega);unfold repNew;rw [if_neg (by omega),if_neg (by omega)];exact zEu (r:=⟨r,_,[],[],[],[]⟩) (by unfold InR;show (0:Int)<=r/\(r:Int) < 3;omega) hk
theorem zGm (h:Came n x) {r:Nat} (hr:r < 3) {q:Replica} {o:List Message} (ho:Lo (q,o)) (upto:Int):Came n (settle x r q o upto).1:=by
 unfold settle;split
 ·exact h.put (s:=x.slots) ho.1 (zHm _ _ ho.2 h.fly) h.rlen.2
 simp only []
 split
 ·exact h
 have hs:(x.slots.set r (store (x.slots.getD r []) q.kept upto).1).length=3:=by simp [h.rlen.2]
 split
 ·exact zKa (x:={ x with slots:=x.slots.set r (store (x.slots.getD r []) q.kept upto).1 }) ⟨⟨h.rlen.1,hs⟩,h.rf,h.fly,h.told,h.few,h.ids⟩ hr
 exact h.put ho.1 (zHm _ _ ho.2 h.fly) hs
theorem Came.more (h:Came n x):Came (n+1) x :=
 ⟨h.rlen,h.rf,h.fly,Nat.le_succ_of_le h.told,h.few,fun c u hu=>by have:=h.ids c u hu;omega⟩
def CuOk (n:Nat) (c:Nat) (u:Customer):Prop:=u.id=c+1/\1<=u.next/\u.next<=n+1/\(u.wait.num=0\/u.wait.client=c+1/\1<=u.wait.num/\u.wait.num<=n+1/\opFault u.wait.op=0)
theorem Came.cust (h:Came n x) {c:Int} (hc:¬ (c < 0\/(x.clients.length:Int)<=c)) {u:Customer} (hu:CuOk n c.toNat (x.clients.getD c.toNat cust0)->CuOk (n+1) c.toNat u) {l:List Told} (hl:l.length<=n+1) :
 Came (n+1) { x with clients:=x.clients.set c.toNat u,told:=l }:=by
 refine ⟨h.rlen,h.rf,h.fly,hl,by simpa using h.few,fun j v hv=>?_⟩;have Ha:c.toNat < x.clients.length:=by omega
 by_cases e:c.toNat=j
 ·rw [<- e,List.getElem?_set_self Ha] at hv;cases hv
  rw [<- e];refine hu ?_;rw [mI,mH Ha];exact h.ids c.toNat _ (mH Ha)
 rw [List.getElem?_set_ne e] at hv;have:=h.ids j v hv;omega
theorem Came.act (h:Came n x) (a:Act):Came (n+1) (act x a).1:=by
 have hm:=h.more;unfold Scu.act;split
 ·unfold actBy;split
  ·exact hm
  rename_i hc
  simp only []
  split
  ·split
   ·exact hm
   split
   ·exact hm
   refine h.cust hc (fun k=>?_) (Nat.le_succ_of_le h.told);obtain ⟨k1,k2,k3,-⟩:=k;refine ⟨k1,?_,?_,.inr ⟨k1,k2,?_,Decidable.not_not.1 (by assumption)⟩⟩
   ·show 1<=_+(1:Int)
    omega
   ·show _+(1:Int)<=_
    omega
   show Customer.next _<=_
   omega
  split
  ·exact hm
  split
  ·exact hm
  split
  ·unfold answer;simp only []
   split
   ·exact hm
   split
   ·exact hm
   split
   ·exact hm
   refine h.cust hc (fun k=>?_) (by have:=h.told;rw [List.length_append,List.length_singleton];omega);obtain ⟨k1,k2,k3,-⟩:=k;exact ⟨k1,k2,Int.le_trans k3 (by omega),.inl rfl⟩
  split
  ·exact hm
  split
  ·exact hm
  exact zGm hm (by omega) (zWi (by omega)) _
 split
 ·unfold actAt;simp only []
  split
  ·exact hm
  split
  ·exact zKa hm (by omega)
  have hq:(if a.kind=5 then alarm (x.replicas.getD a.r.toNat replica0) else tick (x.replicas.getD a.r.toNat replica0)).2.2=0->Lo ((if a.kind=5 then alarm (x.replicas.getD a.r.toNat replica0) else tick (x.replicas.getD a.r.toNat replica0)).1,(if a.kind=5 then alarm (x.replicas.getD a.r.toNat replica0) else tick (x.replicas.getD a.r.toNat replica0)).2.1):=by
   split
   ·exact zSy
   exact zWj
  generalize (if a.kind=5 then alarm (x.replicas.getD a.r.toNat replica0) else tick (x.replicas.getD a.r.toNat replica0))=q at hq ⊢;split
  ·exact hm
  exact zGm hm (by omega) (hq (by omega)) _
 split
 ·unfold actMessage;simp only []
  have he:Came (n+1) { x with flying:=x.flying.eraseIdx a.k.toNat }:=⟨hm.rlen,hm.rf,⟨mD (List.length_eraseIdx_le _ _) hm.fly.1,fun y hy=>hm.fly.2 y (List.mem_of_mem_eraseIdx hy)⟩,hm.told,hm.few,hm.ids⟩;split
  ·exact hm
  split
  ·split
   ·exact hm
   rename_i h1 _ h2
   have Ha:a.k.toNat < x.flying.length:=by omega
   refine ⟨hm.rlen,hm.rf,⟨by have:=h.fly.1;simp;omega,fun y hy=>?_⟩,hm.told,hm.few,hm.ids⟩;rcases List.mem_append.1 hy with h' | h'
   ·exact h.fly.2 y h'
   rw [List.mem_singleton] at h';rw [h',mI,mH Ha];exact h.fly.2 _ (List.getElem_mem Ha)
  split
  ·exact hm
  split
  ·exact he
  split
  ·exact he
  refine zGm he ?_ (zWh (by omega)) _;rename_i h1 _ _ _ _
  have Ha:a.k.toNat < x.flying.length:=by omega
  rw [mI,mH Ha];have:=hm.fly.2 _ (List.getElem_mem Ha);show (x.flying[a.k.toNat].tq).toNat < 3
  unfold InR at this;omega
 exact hm
theorem Came.steps:∀ (l:List Act) {n:Nat} {x:Net},Came n x->Came (n+l.length) (steps x l).1
 | [],_,_,h=>h
 | a :: l,n,x,h=>by
   have:=Came.steps l (h.act a);rw [List.length_cons,Nat.add_comm l.length 1,<- Nat.add_assoc];exact this
theorem steps_codes:∀ (l:List Act) (x:Net),(steps x l).2.length=l.length
 | [],_=>rfl
 | a :: l,x=>by simp [Scu.steps,steps_codes l]
theorem zLt:∀ (l m:List Act) (x:Net),steps x (l ++ m)=((steps (steps x l).1 m).1,(steps x l).2 ++ (steps (steps x l).1 m).2)
 | [],m,x=>by simp [Scu.steps]
 | a :: l,m,x=>by simp [Scu.steps,zLt l m]
def outOf (s:Net × List Int):Outcome:=⟨s.1.replicas,s.1.slots,s.1.flying,s.1.clients,s.1.told,s.2⟩
theorem came_new {k:Nat} (h:k<=4):Came 0 (netNew k):=by
 refine ⟨⟨rfl,rfl⟩,?_,⟨mE _,by simp [netNew]⟩,mC _,by simpa [netNew] using h,fun c u hu=>?_⟩
 ·show ∀ r ∈ (netNew k).replicas,_
  decide +revert
 unfold netNew at hu;simp only [List.getElem?_map] at hu
 by_cases hc:c < k
 ·rw [List.getElem?_range hc] at hu;cases hu
  exact ⟨rfl,Int.le_refl _,by show (1:Int)<=0+1;omega,.inl rfl⟩
 rw [List.getElem?_eq_none (by simpa using hc)] at hu;cases hu
end
theorem zPo {s:State} {e:Str} (h:(apply s e).2=0) (h4:s.lasts.length=4):(apply s e).1.lasts.length=4:=by
 unfold apply at h ⊢;split at h
 ·exact absurd h (by assumption)
 split at h
 ·exact absurd h (by assumption)
 rename_i h1 h2
 rw [if_neg h1,if_neg h2];unfold applyIt;split
 ·exact h4
 simpa using h4
theorem zGs:∀ (l:List Str) (s st:State),s.lasts.length=4->playFrom s l=(st,0)->st.lasts.length=4
 | [],s,st,h4,h=>by cases h;exact h4
 | e :: l,s,st,h4,h=>by
   unfold playFrom at h;split at h
   ·rename_i hn
    exact absurd (Prod.mk.inj h).2 hn
   ·exact zGs l _ _ (zPo (by omega) h4) h
theorem play_four {l:List Str} {st:State} (h:play l=(st,0)):st.lasts.length=4:=zGs l _ _ rfl h
end Scu
namespace Scu
def encN (k:Kept) (gen:Int) (j:Nat):Str:=catS (((nums k gen).take j).map numBytes)
theorem zOh (s:Str):catS [s]=s:=zIv s
theorem encN_succ {k:Kept} {gen:Int} {j:Nat} (h:j < (nums k gen).length):encN k gen (j+1)=encN k gen j ++ numBytes (nums k gen)[j]:=by
 unfold encN;rw [List.take_succ_eq_append_getElem h,List.map_append,zIy,List.map_singleton,zOh]
theorem zOi (k:Kept) (gen:Int):(nums k gen).length=6:=rfl
theorem encN_size (k:Kept) (gen:Int) (j:Nat):(encN k gen j).size<=24:=by
 unfold encN;rw [zGh,List.length_take,zOi];omega
def encT (k:Kept) (gen:Int) (j:Nat):Str:=encN k gen 6 ++ catS ((k.log.take j).map textBytes)
theorem encT_zero (k:Kept) (gen:Int):encT k gen 0=encN k gen 6:=zIv _
theorem encT_succ {k:Kept} {gen:Int} {j:Nat} (h:j < k.log.length):encT k gen (j+1)=encT k gen j ++ textBytes k.log[j]:=by
 unfold encT;rw [List.take_succ_eq_append_getElem h,List.map_append,zIy,List.map_singleton,zOh,zEe]
theorem encT_all (k:Kept) (gen:Int):encT k gen k.log.length=keptBody k gen:=by
 unfold encT encN;rw [zIz,List.take_length,List.take_of_length_le (by rw [zOi];omega)]
theorem encT_size {k:Kept} (h:keptFault k=0) (gen:Int) (j:Nat):(encT k gen j).size<=2484:=by
 have h1:=encN_size k gen 6;have h2:=zFh (k.log.take j) (fun s hs=>log_small h s (List.mem_of_mem_take hs));have h3:=(keptFault_ok h).2.2.2.2.2.1;have h4:(k.log.take j).length<=k.log.length:=by rw [List.length_take];omega
 unfold encT;rw [ByteArray.size_append];omega
section
variable {α:Type}
def glue (xs:List α) (q:List α × Str × Int):List α × Str × Int:=if q.2.2≠0 then ([],str0,q.2.2) else (xs ++ q.1,q.2.1,0)
theorem glue_bad (xs:List α) (q:List α × Str × Int) (h:q.2.2≠0):glue xs q=([],str0,q.2.2):=if_pos h
theorem glue_glue (xs ys:List α) (q:List α × Str × Int):glue xs (glue ys q)=glue (xs ++ ys) q:=by
 unfold glue;by_cases h:q.2.2=0
 ·simp [h]
 simp [h]
theorem glue_done (xs:List α) (s:Str):glue xs ([],s,0)=(xs,s,0):=by simp [glue]
end
theorem readNumbers_bad {n:Nat} {s:Str} (h:(readNumber s).2.2≠0):readNumbers (n+1) s=([],str0,(readNumber s).2.2):=by
 unfold readNumbers;simp only
 rw [if_pos h]
theorem readNumbers_more {n:Nat} {s:Str} (h:(readNumber s).2.2=0):readNumbers (n+1) s=glue [(readNumber s).1] (readNumbers n (readNumber s).2.1):=by
 conv=>lhs;unfold readNumbers
 simp only
 rw [if_neg (by simp [h])];rfl
theorem readTexts_bad {n:Nat} {s:Str} (h:(readText s).2.2≠0):readTexts (n+1) s=([],str0,(readText s).2.2):=by
 unfold readTexts;simp only
 rw [if_pos h]
theorem readTexts_more {n:Nat} {s:Str} (h:(readText s).2.2=0):readTexts (n+1) s=glue [(readText s).1] (readTexts n (readText s).2.1):=by
 conv=>lhs;unfold readTexts
 simp only
 rw [if_neg (by simp [h])];rfl
theorem nil_glue (n:Nat) (s:Str):readNumbers n s=glue [] (readNumbers n s):=by
 by_cases h:(readNumbers n s).2.2=0
 ·unfold glue;rw [if_neg (by simp [h])];rw [List.nil_append,<- h]
 rw [glue_bad _ _ h];cases n with
 | zero=>exact absurd rfl h
 | succ n =>
   by_cases hr:(readNumber s).2.2=0
   ·rw [readNumbers_more hr] at h ⊢;by_cases hq:(readNumbers n (readNumber s).2.1).2.2=0
    ·exact absurd (by unfold glue;rw [if_neg (by simp [hq])]) h
    rw [glue_bad _ _ hq]
   ·rw [readNumbers_bad hr]
theorem nil_glueT (n:Nat) (s:Str):readTexts n s=glue [] (readTexts n s):=by
 by_cases h:(readTexts n s).2.2=0
 ·unfold glue;rw [if_neg (by simp [h])];rw [List.nil_append,<- h]
 rw [glue_bad _ _ h];cases n with
 | zero=>exact absurd rfl h
 | succ n =>
   by_cases hr:(readText s).2.2=0
   ·rw [readTexts_more hr] at h ⊢;by_cases hq:(readTexts n (readText s).2.1).2.2=0
    ·exact absurd (by unfold glue;rw [if_neg (by simp [hq])]) h
    rw [glue_bad _ _ hq]
   ·rw [readTexts_bad hr]
theorem rn_size (s:Str):(readNumber s).2.1.size<=s.size:=by
 unfold readNumber;split
 ·exact mE _
 split
 ·exact mE _
 show (dropS s 4).size<=s.size
 unfold dropS;rw [ByteArray.size_extract];omega
theorem rt_size (s:Str):(readText s).2.1.size<=s.size/\(readText s).1.size<=s.size:=by
 unfold readText;split
 ·exact ⟨mE _,mE _⟩
 split
 ·exact ⟨mE _,mE _⟩
 refine ⟨?_,?_⟩
 ·show (dropS s _).size<=s.size
  unfold dropS;rw [ByteArray.size_extract];omega
 show (s.extract 1 _).size<=s.size
 rw [ByteArray.size_extract];omega
section
variable {s:Str}
theorem dec1 (h:4000 < s.size):stageDecode s=(kept0,0,1):=if_pos h
theorem dec2 (h:s.size < 4):stageDecode s=(kept0,0,5):=by unfold stageDecode;rw [if_neg (by omega),if_pos h]
theorem dec3 (h1:¬ 4000 < s.size) (h2:¬ s.size < 4) (h:sealS (dropS s 4)≠s.extract 0 4):stageDecode s=(kept0,0,11):=by unfold stageDecode;rw [if_neg h1,if_neg h2,if_pos h]
theorem dec4 (h1:¬ 4000 < s.size) (h2:¬ s.size < 4) (h3:¬ sealS (dropS s 4)≠s.extract 0 4) {e:Int} (h:readNumbers 6 (dropS s 4)=([],str0,e)) (he:e≠0):stageDecode s=(kept0,0,e):=by
 unfold stageDecode;rw [if_neg h1,if_neg h2,if_neg h3];simp only [h]
 rw [if_pos he]
theorem dec5 (h1:¬ 4000 < s.size) (h2:¬ s.size < 4) (h3:¬ sealS (dropS s 4)≠s.extract 0 4) {a b c d e f:Int} {t:Str} (h:readNumbers 6 (dropS s 4)=([a,b,c,d,e,f],t,0)) :
 stageDecode s=if 1 < d\/60 < f then (kept0,0,4) else if (readTexts f.toNat t).2.2≠0 then (kept0,0,(readTexts f.toNat t).2.2) else if (readTexts f.toNat t).2.1≠str0 then (kept0,0,4) else
  if keptFault ⟨b,c,d == 1,(readTexts f.toNat t).1,e⟩≠0 then (kept0,0,keptFault ⟨b,c,d == 1,(readTexts f.toNat t).1,e⟩) else (⟨b,c,d == 1,(readTexts f.toNat t).1,e⟩,a,0):=by
 unfold stageDecode;rw [if_neg h1,if_neg h2,if_neg h3];simp only [h]
 rfl
end
end Scu
namespace Scu
theorem zJu {s:Str} (h:(readNumber s).2.2=0):0<=(readNumber s).1/\(readNumber s).1<=1073741824:=by
 unfold readNumber at h ⊢;split
 ·rename_i hx;rw [if_pos hx] at h;simp at h
 rename_i hx;rw [if_neg hx] at h
 split
 ·rename_i hx;rw [if_pos hx] at h;simp at h
 have:=zPn s;exact ⟨this.1,by show num4 s<=_;omega⟩
theorem zFi:∀ (n:Nat) (s:Str),(readNumbers n s).2.2=0->∀ x ∈ (readNumbers n s).1,0<=x/\x<=1073741824
 | 0,s,_,x,hx=>by simp [readNumbers] at hx
 | n+1,s,h,x,hx=>by
   unfold readNumbers at h hx;simp only [] at h hx
   by_cases h1:(readNumber s).2.2≠0
   ·rw [if_pos h1] at h;exact absurd h h1
   rw [if_neg h1] at h hx;by_cases h2:(readNumbers n (readNumber s).2.1).2.2≠0
   ·rw [if_pos h2] at h;exact absurd h h2
   rw [if_neg h2] at hx;rcases List.mem_cons.1 hx with rfl | hx
   ·exact zJu (by omega)
   ·exact zFi n _ (by omega) x hx
theorem zCp {s:Str} {k:Kept} {g:Int} (h:stageDecode s=(k,g,0)):keptFault k=0/\0<=g/\g<=1073741824:=by
 unfold stageDecode at h;split at h
 ·simp at h
 split at h
 ·simp at h
 split at h
 ·simp at h
 simp only [] at h
 split at h
 ·rename_i hx;simp only [Prod.mk.injEq] at h;omega
 rename_i hn
 split at h
 ·simp at h
 split at h
 ·rename_i hx;simp only [Prod.mk.injEq] at h;omega
 split at h
 ·simp at h
 split at h
 ·rename_i hx;simp only [Prod.mk.injEq] at h;omega
 rename_i hk
 simp only [Prod.mk.injEq] at h
 obtain ⟨rfl,rfl,_⟩:=h;refine ⟨by omega,?_⟩;have hr:=zFi 6 (dropS s 4) (by omega);rcases Nat.lt_or_ge 0 (readNumbers 6 (dropS s 4)).1.length with hl | hl
 ·rw [mI,mH hl];exact hr _ (List.getElem_mem hl)
 rw [mI,List.getElem?_eq_none hl];simp
theorem load_len {l:List Str} (h:l.length≠2):load l=(kept0,0,0,4):=if_pos h
theorem load_two {a b:Str} {ka kb:Kept} {ga gb ea eb:Int} (da:stageDecode a=(ka,ga,ea)) (db:stageDecode b=(kb,gb,eb)) :
 load [a,b]=if ea≠0/\eb≠0 then (kept0,0,0,13) else if ea≠0\/(eb=0/\ga < gb) then (kb,gb,1,0) else (ka,ga,0,0):=by
 unfold load;rw [if_neg (by simp)];simp only [List.getD_cons_zero,List.getD_cons_succ,da,db]
def better2 (q:Kept × Int × Int) (d:Kept × Int × Int) (j:Int):Kept × Int × Int:=if d.2.2=0/\q.2.1 < d.2.1 then (d.1,d.2.1,j) else q
def best0:Kept × Int × Int:=(kept0,-1,0)
def bestJ (l:List Str):Nat->Kept × Int × Int
 | 0=>best0
 | j+1=>better2 (bestJ l j) (stageDecode (l.getD j str0)) j
theorem bestJ_next {l:List Str} {j:Nat} (hj:j < l.length) {k:Kept} {g e:Int} (d:stageDecode l[j]=(k,g,e)):bestJ l (j+1)=if e=0/\(bestJ l j).2.1 < g then (k,g,(j:Int)) else bestJ l j:=by
 show better2 (bestJ l j) (stageDecode (l.getD j str0)) j=_
 rw [mI,mH hj,Option.getD_some,d];rfl
theorem load_best {l:List Str} (h:l.length=2):load l=if (bestJ l 2).2.1 < 0 then (kept0,0,0,13) else ((bestJ l 2).1,(bestJ l 2).2.1,(bestJ l 2).2.2,0):=by
 match l,h with
 | [a,b],_ =>
   generalize da:stageDecode a=qa;generalize db:stageDecode b=qb;obtain ⟨ka,ga,ea⟩:=qa;obtain ⟨kb,gb,eb⟩:=qb;rw [load_two da db];have e1:bestJ [a,b] 1=if ea=0/\(-1:Int) < ga then (ka,ga,0) else best0:=bestJ_next (l:=[a,b]) (j:=0) (by simp) da
   have e2:bestJ [a,b] 2=if eb=0/\(bestJ [a,b] 1).2.1 < gb then (kb,gb,1) else bestJ [a,b] 1:=bestJ_next (l:=[a,b]) (j:=1) (by simp) db
   by_cases ha:ea=0
   ·subst ha;have Hc:=(zCp da).2.1;rw [if_pos ⟨rfl,by omega⟩] at e1;rw [e1] at e2;by_cases hb:eb=0
    ·subst hb;have Hb:=(zCp db).2.1;by_cases Ha:ga < gb
     ·rw [if_pos ⟨rfl,Ha⟩] at e2;rw [e2,if_neg (by simp),if_pos (.inr ⟨rfl,Ha⟩),if_neg (by show ¬ gb < 0;omega)]
     rw [if_neg (by rintro ⟨_,h⟩;exact Ha h)] at e2;rw [e2,if_neg (by simp),if_neg (by rintro (h | ⟨_,h⟩) <;> omega),if_neg (by show ¬ ga < 0;omega)]
    rw [if_neg (by rintro ⟨h,_⟩;exact hb h)] at e2;rw [e2,if_neg (by simp),if_neg (by rintro (h | ⟨h,_⟩);exact h rfl;exact hb h),if_neg (by show ¬ ga < 0;omega)]
   ·rw [if_neg (by rintro ⟨h,_⟩;exact ha h)] at e1;rw [e1] at e2;by_cases hb:eb=0
    ·subst hb;have Hb:=(zCp db).2.1;rw [if_pos ⟨rfl,by show (-1:Int) < gb;omega⟩] at e2;rw [e2,if_neg (by simp),if_pos (.inl ha),if_neg (by show ¬ gb < 0;omega)]
    rw [if_neg (by rintro ⟨h,_⟩;exact hb h)] at e2;rw [e2,if_pos ⟨ha,hb⟩,if_pos (by show (-1:Int) < 0;omega)]
theorem load_at {l:List Str} {k:Kept} {g a:Int} (h:load l=(k,g,a,0)):l.length=2/\(a=0\/a=1)/\0<=g/\g<=1073741824:=by
 by_cases hl:l.length=2
 ·match l,hl with
  | [x,y],_ =>
    generalize da:stageDecode x=qa at *;generalize db:stageDecode y=qb at *;obtain ⟨ka,ga,ea⟩:=qa;obtain ⟨kb,gb,eb⟩:=qb;rw [load_two da db] at h;refine ⟨rfl,?_⟩;split at h
    ·simp at h
    split at h
    ·rename_i h1 h2
     simp only [Prod.mk.injEq] at h
     obtain ⟨rfl,rfl,rfl,_⟩:=h;have:eb=0:=by
      rcases h2 with h2 | h2
      ·exact Decidable.byContradiction (fun hb=>h1 ⟨h2,hb⟩)
      exact h2.1
     subst this;have:=zCp db;exact ⟨.inr rfl,this.2⟩
    ·rename_i h1 h2
     simp only [Prod.mk.injEq] at h
     obtain ⟨rfl,rfl,rfl,_⟩:=h;have:ea=0:=Decidable.byContradiction (fun ha=>h2 (.inl ha));subst this;have:=zCp da;exact ⟨.inl rfl,this.2⟩
 rw [load_len hl] at h;simp at h
end Scu

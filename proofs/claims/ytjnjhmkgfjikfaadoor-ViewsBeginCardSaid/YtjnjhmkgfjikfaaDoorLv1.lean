/- Part 1: words and walks under the laws of the whole. -/
import Derived.Lib.Hide
import Derived.Below
import Derived.Lib.ItoaNum
import Derived.Test.YtjnjhmkgfjikfaaDoorRows
import Derived.WalkKit
import Derived.ProofKit
import Derived.ClosedOfChecked
set_option linter.unusedVariables false
set_option linter.unusedSimpArgs false
set_option maxHeartbeats 4000000
set_option maxRecDepth 100000
theorem mB {P Q : Prop} (h : P) (k : Q) : P ∧ Q := ⟨h, k⟩
theorem mC (n : Nat) : n ≤ n := Nat.le_refl n
theorem mD {n m k : Nat} (h : n ≤ m) (i : m ≤ k) : n ≤ k := Nat.le_trans h i
theorem mE (n : Nat) : 0 ≤ n := Nat.zero_le n
theorem mF {n m k : Nat} (h : n < m) (i : m ≤ k) : n < k := Nat.lt_of_lt_of_le h i
theorem mH {α : Type _} {l : List α} {i : Nat} (h : i < l.length) : l[i]? = some l[i] := List.getElem?_eq_getElem h
theorem mI {α : Type _} {l : List α} {i : Nat} {a : α} : l.getD i a = (l[i]?).getD a := List.getD_eq_getElem?_getD ..
theorem mJ {α : Sort _} (a : α) : ∃ x, x = a := ⟨a, rfl⟩
theorem mK {α : Sort _} (a : α) : ∃ x, a = x := ⟨a, rfl⟩
namespace Scu
abbrev Str:=ByteArray
structure Op where
 kind:Int
 at_:Int
 snap:Int
 data:Str
deriving DecidableEq
structure Reply where
 code:Int
 n:Int
 data:Str
deriving DecidableEq
structure Volume where
 now:List Str
 snaps:List (List Str)
deriving DecidableEq
structure Request where
 client:Int
 num:Int
 op:Op
deriving DecidableEq
structure Last where
 num:Int
 reply:Reply
deriving DecidableEq
structure State where
 volume:Volume
 lasts:List Last
deriving DecidableEq
structure Kept where
 view:Int
 normal:Int
 calm:Bool
 log:List Str
 commit:Int
deriving DecidableEq
structure Replica where
 me:Int
 kept:Kept
 have_:List Int
 wants:List Bool
 gives:List Kept
 given:List Bool
deriving DecidableEq
structure Message where
 kind:Int
 from_:Int
 tq:Int
 view:Int
 normal:Int
 commit:Int
 n:Int
 log:List Str
deriving DecidableEq
structure Customer where
 id:Int
 next:Int
 wait:Request
deriving DecidableEq
structure Act where
 kind:Int
 c:Int
 r:Int
 k:Int
 n:Int
 op:Op
deriving DecidableEq
structure Told where
 request:Request
 reply:Reply
deriving DecidableEq
structure Outcome where
 replicas:List Replica
 slots:List (List Str)
 flying:List Message
 clients:List Customer
 told:List Told
 codes:List Int
deriving DecidableEq
def str0:Str:=ByteArray.empty
def op0:Op:=⟨0,0,0,str0⟩
def reply0:Reply:=⟨0,0,str0⟩
def vol0:Volume:=⟨[],[]⟩
def req0:Request:=⟨0,0,op0⟩
def last0:Last:=⟨0,reply0⟩
def state0:State:=⟨vol0,[]⟩
def kept0:Kept:=⟨0,0,false,[],0⟩
def replica0:Replica:=⟨0,kept0,[],[],[],[]⟩
def msg0:Message:=⟨0,0,0,0,0,0,0,[]⟩
def b8 (n:Int):UInt8:=UInt8.ofNat (n % 256).toNat
def numBytes (n:Int):Str:=⟨#[b8 (n / 16777216),b8 (n / 65536),b8 (n / 256),b8 n]⟩
def number (n:Int):Str × Int:=if n < 0\/1073741824 < n then (str0,2) else (numBytes n,0)
def textBytes (s:Str):Str:=⟨#[b8 s.size]⟩ ++ s
def text (s:Str):Str × Int:=if 255 < s.size then (str0,1) else (textBytes s,0)
def byteAt (s:Str) (i:Nat):Int:=((s.data.toList.getD i 0).toNat:Int)
def num4 (s:Str):Int:=byteAt s 0*16777216+byteAt s 1*65536+byteAt s 2*256+byteAt s 3
def dropS (s:Str) (k:Nat):Str:=s.extract k s.size
def readNumber (s:Str):Int × Str × Int :=
 if s.size < 4 then (0,str0,5)
 else if 1073741824 < num4 s then (0,str0,4)
 else (num4 s,dropS s 4,0)
def readText (s:Str):Str × Str × Int :=
 if s.size=0 then (str0,str0,5)
 else if (s.size:Int) - 1 < byteAt s 0 then (str0,str0,5)
 else (s.extract 1 (1+byteAt s 0).toNat,dropS s (1+byteAt s 0).toNat,0)
def sealStep (p:Int × Int) (b:UInt8):Int × Int :=
 let x:=(p.1+b.toNat) % 65521
 (x,(p.2+x) % 65521)
def sealXY (l:List UInt8):Int × Int:=l.foldl sealStep (1,0)
def sealS (s:Str):Str :=
 let p:=sealXY s.data.toList
 ⟨#[b8 (p.2 / 256),b8 p.2,b8 (p.1 / 256),b8 p.1]⟩
def volNew:Volume:=⟨List.replicate 6 str0,[]⟩
def sectorsOk (l:List Str):Bool:=l.length == 6 && l.all fun s=>decide (s.size<=8)
def volOk (v:Volume):Bool:=sectorsOk v.now && decide (v.snaps.length<=3) && v.snaps.all sectorsOk
def volFault (v:Volume):Int:=if volOk v then 0 else 8
def opFault (o:Op):Int :=
 if o.kind < 1\/4 < o.kind then 3
 else if o.at_ < 0\/6<=o.at_\/o.snap < 0\/3 < o.snap then 2
 else if (o.kind≠3/\o.snap≠0)\/(o.kind=4/\o.at_≠0)\/(o.kind≠1/\o.data.size≠0) then 4
 else if 8 < o.data.size then 1 else 0
def doIt (v:Volume) (o:Op):Volume × Reply :=
 if o.kind=1\/o.kind=2 then (⟨v.now.set o.at_.toNat o.data,v.snaps⟩,reply0)
 else if o.kind=4 then
  if v.snaps.length=3 then (v,{ reply0 with code:=7 }) else (⟨v.now,v.snaps ++ [v.now]⟩,{ reply0 with n:=v.snaps.length+1 })
 else if o.snap=0 then (v,{ reply0 with data:=v.now.getD o.at_.toNat str0 })
 else if (v.snaps.length:Int) < o.snap then (v,{ reply0 with code:=6 })
 else (v,{ reply0 with data:=(v.snaps.getD (o.snap - 1).toNat []).getD o.at_.toNat str0 })
def reqFault (r:Request):Int:=if r.client < 1\/4 < r.client\/r.num < 1\/1048576 < r.num then 2 else opFault r.op
def reqBytes (r:Request):Str:=⟨#[b8 r.client,b8 r.op.kind,b8 r.op.at_,b8 r.op.snap]⟩ ++ numBytes r.num ++ textBytes r.op.data
def encode (r:Request):Str × Int:=if reqFault r≠0 then (str0,reqFault r) else (reqBytes r,0)
def decode (s:Str):Request × Int :=
 if 40 < s.size then (req0,1)
 else if s.size < 4 then (req0,5)
 else
  let a:=readNumber (dropS s 4)
  if a.2.2≠0 then (req0,a.2.2) else
  let b:=readText a.2.1
  if b.2.2≠0 then (req0,b.2.2) else
  if b.2.1≠str0 then (req0,4) else
  let r:Request:=⟨byteAt s 0,a.1,⟨byteAt s 1,byteAt s 2,byteAt s 3,b.1⟩⟩
  if reqFault r≠0 then (req0,reqFault r) else (r,0)
def stateNew:State:=⟨volNew,List.replicate 4 last0⟩
def lastsOk (l:List Last):Bool:=l.length == 4 && l.all fun x=>decide (0<=x.num) && decide (x.num<=1048576)
def stateFault (s:State):Int:=if lastsOk s.lasts then volFault s.volume else 8
def applyIt (s:State) (r:Request):State :=
 if r.num<=(s.lasts.getD (r.client - 1).toNat last0).num then s
 else ⟨(doIt s.volume r.op).1,s.lasts.set (r.client - 1).toNat ⟨r.num,(doIt s.volume r.op).2⟩⟩
def apply (s:State) (e:Str):State × Int :=
 if stateFault s≠0 then (state0,stateFault s)
 else if (decode e).2≠0 then (state0,(decode e).2)
 else (applyIt s (decode e).1,0)
def playFrom (s:State):List Str->State × Int
 | []=>(s,0)
 | e :: l=>if (apply s e).2≠0 then (state0,(apply s e).2) else playFrom (apply s e).1 l
def play (l:List Str):State × Int:=playFrom stateNew l
def logFault:List Str->Int
 | []=>0
 | e :: l=>if (decode e).2≠0 then (decode e).2 else logFault l
def keptFault (k:Kept):Int :=
 if k.view < 0\/1048576 < k.view\/k.normal < 0\/k.view < k.normal\/(k.calm=true/\k.normal≠k.view) then 2
 else if 60 < k.log.length then 1
 else if k.commit < 0\/(k.log.length:Int) < k.commit then 2
 else logFault k.log
def catS:List Str->Str
 | []=>str0
 | s :: l=>s ++ catS l
def keptBody (k:Kept) (gen:Int):Str :=
 numBytes gen ++ numBytes k.view ++ numBytes k.normal ++ numBytes (if k.calm then 1 else 0) ++ numBytes k.commit ++ numBytes k.log.length ++ catS (k.log.map textBytes)
def keptBytes (k:Kept) (gen:Int):Str:=sealS (keptBody k gen) ++ keptBody k gen
def readNumbers:Nat->Str->List Int × Str × Int
 | 0,s=>([],s,0)
 | n+1,s =>
   let a:=readNumber s
   if a.2.2≠0 then ([],str0,a.2.2) else
   let b:=readNumbers n a.2.1
   if b.2.2≠0 then ([],str0,b.2.2) else (a.1 :: b.1,b.2.1,0)
def readTexts:Nat->Str->List Str × Str × Int
 | 0,s=>([],s,0)
 | n+1,s =>
   let a:=readText s
   if a.2.2≠0 then ([],str0,a.2.2) else
   let b:=readTexts n a.2.1
   if b.2.2≠0 then ([],str0,b.2.2) else (a.1 :: b.1,b.2.1,0)
def stageDecode (s:Str):Kept × Int × Int :=
 if 4000 < s.size then (kept0,0,1)
 else if s.size < 4 then (kept0,0,5)
 else if sealS (dropS s 4)≠s.extract 0 4 then (kept0,0,11)
 else
  let a:=readNumbers 6 (dropS s 4)
  if a.2.2≠0 then (kept0,0,a.2.2) else
  let l:=a.1
  if 1 < l.getD 3 0\/60 < l.getD 5 0 then (kept0,0,4) else
  let b:=readTexts (l.getD 5 0).toNat a.2.1
  if b.2.2≠0 then (kept0,0,b.2.2) else
  if b.2.1≠str0 then (kept0,0,4) else
  let k:Kept:=⟨l.getD 1 0,l.getD 2 0,l.getD 3 0 == 1,b.1,l.getD 4 0⟩
  if keptFault k≠0 then (kept0,0,keptFault k) else (k,l.getD 0 0,0)
def keptNew:Kept:={ kept0 with calm:=true }
def stageNew:List Str:=[keptBytes keptNew 0,str0]
def load (l:List Str):Kept × Int × Int × Int :=
 if l.length≠2 then (kept0,0,0,4) else
 let a:=stageDecode (l.getD 0 str0)
 let b:=stageDecode (l.getD 1 str0)
 if a.2.2≠0/\b.2.2≠0 then (kept0,0,0,13)
 else if a.2.2≠0\/(b.2.2=0/\a.2.1 < b.2.1) then (b.1,b.2.1,1,0)
 else (a.1,a.2.1,0,0)
def upTo (s:Str) (n:Int):Str:=if 0<=n/\n < s.size then s.extract 0 n.toNat else s
def store (l:List Str) (k:Kept) (upto:Int):List Str × Int :=
 let a:=load l
 if a.2.2.2≠0 then ([],a.2.2.2)
 else if a.2.1=1073741824 then ([],7)
 else if keptFault k≠0 then ([],keptFault k)
 else if upto < -1 then ([],2)
 else (l.set (1 - a.2.2.1).toNat (upTo (keptBytes k (a.2.1+1)) upto),0)
def repNew (me:Int) (k:Kept):Replica × Int :=
 if me < 0\/3<=me then (replica0,2)
 else if keptFault k≠0 then (replica0,keptFault k)
 else (⟨me,k,[0,0,0],[false,false,false],[kept0,kept0,kept0],[false,false,false]⟩,0)
def repFault (r:Replica):Int :=
 if r.me < 0\/3<=r.me then 2
 else if r.have_.length≠3\/r.wants.length≠3\/r.gives.length≠3\/r.given.length≠3 then 8
 else if r.have_.any (fun h=>decide (h < 0) || decide ((r.kept.log.length:Int) < h)) || r.gives.any (fun g=>decide (keptFault g≠0)) then 8
 else keptFault r.kept
def leader (view:Int):Int:=view % 3
def leads (r:Replica):Bool:=r.kept.calm && decide (leader r.kept.view=r.me)
def msgFault (m:Message):Int :=
 if m.kind < 1\/4 < m.kind then 3
 else if m.from_ < 0\/3<=m.from_\/m.tq < 0\/3<=m.tq\/m.from_=m.tq\/m.view < 0\/1048576 < m.view\/m.n < 0\/60 < m.n then 2
 else if (m.kind≠4/\m.normal≠0)\/(m.kind≠2/\m.n≠0)\/((m.kind=2\/m.kind=3)/\(m.commit≠0\/m.log≠[])) then 4
 else if (m.kind=1/\m.from_≠leader m.view)\/((m.kind=2\/m.kind=4)/\m.tq≠leader m.view) then 4
 else keptFault ⟨m.view,m.normal,false,m.log,m.commit⟩
def toAll (me view:Int) (m:Message):List Message :=
 ([0,1,2].filter fun i=>decide (i≠me)).map fun i=>{ m with from_:=me,tq:=i,view:=view }
def fresh (r:Replica):Replica :=
 { r with have_:=[0,0,0],wants:=[false,false,false],gives:=[kept0,kept0,kept0],given:=[false,false,false] }
def leadOn (r:Replica):List Message:=toAll r.me r.kept.view { msg0 with kind:=1,commit:=r.kept.commit,log:=r.kept.log }
def want (r:Replica) (view:Int):Replica × List Message :=
 let r1:=fresh { r with kept:={ r.kept with view:=view,calm:=false } }
 let r2:={ r1 with wants:=r1.wants.set r.me.toNat true }
 (r2,toAll r.me view { msg0 with kind:=3 })
def own (k:Kept):Kept:={ k with calm:=false }
def better (a b:Kept):Bool:=decide (b.normal < a.normal) || (decide (a.normal=b.normal) && decide (b.log.length < a.log.length))
def bestOf (l:List (Kept × Bool)):Kept:=l.foldl (fun b g=>if g.2 && better g.1 b then g.1 else b) { kept0 with normal:=-1 }
def maxCommit (l:List (Kept × Bool)):Int:=l.foldl (fun c g=>if g.2 then max c g.1.commit else c) 0
def begun (r:Replica):Replica × List Message :=
 if r.given.getD r.me.toNat false=false then (r,[])
 else if r.given.countP id < 2 then (r,[])
 else
  let l:=r.gives.zip r.given
  let b:=bestOf l
  let r1:=fresh { r with kept:=⟨r.kept.view,r.kept.view,true,b.log,min (maxCommit l) b.log.length⟩ }
  (r1,leadOn r1)
def give1 (r:Replica) (i:Int) (k:Kept):Replica :=
 { r with gives:=r.gives.set i.toNat (own k),given:=r.given.set i.toNat true }
def take1 (r:Replica) (i:Int) (k:Kept):Replica × List Message:=begun (give1 r i k)
def hearLead (r:Replica) (m:Message):Replica × List Message :=
 let k:=r.kept
 let r1 :=
  if k.view < m.view\/k.calm=false then
   fresh { r with kept:=⟨m.view,m.view,true,m.log,max m.commit (min k.commit m.log.length)⟩ }
  else if k.log.length < m.log.length then { r with kept:={ k with log:=m.log } } else r
 let r2:={ r1 with kept:={ r1.kept with commit:=max r1.kept.commit (min m.commit r1.kept.log.length) } }
 (r2,[{ msg0 with kind:=2,from_:=r.me,tq:=m.from_,view:=r2.kept.view,n:=r2.kept.log.length }])
def hearHas (r:Replica) (m:Message):Replica × List Message :=
 if m.view≠r.kept.view\/leads r=false then (r,[])
 else
  let n:=min m.n r.kept.log.length
  let r1:={ r with have_:=r.have_.set m.from_.toNat (max (r.have_.getD m.from_.toNat 0) n) }
  if r.kept.commit < n then
   let r2:={ r1 with kept:={ r.kept with commit:=n } }
   (r2,leadOn r2)
  else (r1,[])
def wantIf (r:Replica) (v:Int):Replica × List Message:=if r.kept.view < v then want r v else (r,[])
def hearWant (r:Replica) (m:Message):Replica × List Message :=
 let a:=wantIf r m.view
 if a.1.kept.calm=true\/a.1.wants.getD m.from_.toNat false=true then a
 else
  let r1:={ a.1 with wants:=a.1.wants.set m.from_.toNat true }
  let tq:=leader r1.kept.view
  if tq=r1.me then
   let b:=take1 r1 tq r1.kept
   (b.1,a.2 ++ b.2)
  else (r1,a.2 ++ [{ msg0 with kind:=4,from_:=r1.me,tq:=tq,view:=r1.kept.view,normal:=r1.kept.normal,commit:=r1.kept.commit,log:=r1.kept.log }])
def hearGive (r:Replica) (m:Message):Replica × List Message :=
 let a:=wantIf r m.view
 if a.1.kept.calm=true then a
 else
  let r1:=if a.1.given.getD a.1.me.toNat false=false then give1 a.1 a.1.me a.1.kept else a.1
  let b:=take1 r1 m.from_ ⟨m.view,m.normal,false,m.log,m.commit⟩
  (b.1,a.2 ++ b.2)
def hearIt (r:Replica) (m:Message):Replica × List Message :=
 if m.kind=1 then hearLead r m else if m.kind=2 then hearHas r m else if m.kind=3 then hearWant r m else hearGive r m
def hear (r:Replica) (m:Message):Replica × List Message × Int :=
 if repFault r≠0 then (replica0,[],repFault r)
 else if msgFault m≠0 then (replica0,[],msgFault m)
 else if m.tq≠r.me then (replica0,[],6)
 else if m.view < r.kept.view then (replica0,[],9)
 else ((hearIt r m).1,(hearIt r m).2,0)
def take (r:Replica) (e:Str):Replica × List Message × Int :=
 if repFault r≠0 then (replica0,[],repFault r)
 else if leads r=false then (replica0,[],14)
 else if r.kept.log.length=60 then (replica0,[],7)
 else if (decode e).2≠0 then (replica0,[],(decode e).2)
 else
  let r1:={ r with kept:={ r.kept with log:=r.kept.log ++ [e] } }
  (r1,leadOn r1,0)
def tick (r:Replica):Replica × List Message × Int :=
 if repFault r≠0 then (replica0,[],repFault r)
 else if leads r=true then (r,leadOn r,0)
 else if r.kept.calm=true then (r,[{ msg0 with kind:=2,from_:=r.me,tq:=leader r.kept.view,view:=r.kept.view,n:=r.kept.log.length }],0)
 else
  let r1:={ r with wants:=r.wants.set r.me.toNat true }
  (r1,toAll r.me r.kept.view { msg0 with kind:=3 },0)
def alarm (r:Replica):Replica × List Message × Int :=
 if repFault r≠0 then (replica0,[],repFault r)
 else if r.kept.view=1048576 then (replica0,[],7)
 else ((want r (r.kept.view+1)).1,(want r (r.kept.view+1)).2,0)
structure Net where
 replicas:List Replica
 slots:List (List Str)
 flying:List Message
 clients:List Customer
 told:List Told
deriving DecidableEq
def sendAll (f l:List Message):List Message:=l.foldl (fun f m=>if f.length < 80 then f ++ [m] else f) f
def crash (x:Net) (r:Nat):Net × Int :=
 let a:=load (x.slots.getD r [])
 if a.2.2.2≠0 then (x,a.2.2.2)
 else
  let b:=repNew r a.1
  ({ x with replicas:=x.replicas.set r b.1 },b.2)
def settle (x:Net) (r:Nat) (next:Replica) (out:List Message) (upto:Int):Net × Int :=
 if next.kept=(x.replicas.getD r replica0).kept/\upto < 0 then
  ({ x with replicas:=x.replicas.set r next,flying:=sendAll x.flying out },0)
 else
  let a:=store (x.slots.getD r []) next.kept upto
  if a.2≠0 then (x,a.2)
  else
   let y:={ x with slots:=x.slots.set r a.1 }
   if 0<=upto then crash y r
   else ({ y with replicas:=y.replicas.set r next,flying:=sendAll y.flying out },0)
def actMessage (x:Net) (a:Act):Net × Int :=
 if a.k < 0\/(x.flying.length:Int)<=a.k then (x,6)
 else
  let m:=x.flying.getD a.k.toNat msg0
  if a.kind=8 then
   if x.flying.length=80 then (x,7) else ({ x with flying:=x.flying ++ [m] },0)
  else if a.kind=10/\(a.n < 0\/4000 < a.n) then (x,2)
  else
   let y:={ x with flying:=x.flying.eraseIdx a.k.toNat }
   if a.kind=7 then (y,0)
   else
    let h:=hear (x.replicas.getD m.tq.toNat replica0) m
    if h.2.2≠0 then (y,h.2.2)
    else settle y m.tq.toNat h.1 h.2.1 (if a.kind=10 then a.n else -1)
def actAt (x:Net) (a:Act):Net × Int :=
 if a.r < 0\/3<=a.r then (x,6)
 else if a.kind=9 then crash x a.r.toNat
 else
  let h:=if a.kind=5 then alarm (x.replicas.getD a.r.toNat replica0) else tick (x.replicas.getD a.r.toNat replica0)
  if h.2.2≠0 then (x,h.2.2)
  else settle x a.r.toNat h.1 h.2.1 (-1)
def cust0:Customer:=⟨0,0,req0⟩
def answer (x:Net) (c:Nat) (r:Replica):Net × Int :=
 let cu:=x.clients.getD c cust0
 if leads r=false then (x,14)
 else
  let s:=play (r.kept.log.take r.kept.commit.toNat)
  if s.2≠0 then (x,s.2)
  else
   let l:=s.1.lasts.getD (cu.id - 1).toNat last0
   if l.num≠cu.wait.num then (x,12)
   else ({ x with told:=x.told ++ [⟨cu.wait,l.reply⟩],clients:=x.clients.set c { cu with wait:=req0 } },0)
def actBy (x:Net) (a:Act):Net × Int :=
 if a.c < 0\/(x.clients.length:Int)<=a.c then (x,6)
 else
  let c:=x.clients.getD a.c.toNat cust0
  if a.kind=1 then
   if 0 < c.wait.num then (x,12)
   else if opFault a.op≠0 then (x,opFault a.op)
   else ({ x with clients:=x.clients.set a.c.toNat ⟨c.id,c.next+1,⟨c.id,c.next,a.op⟩⟩ },0)
  else if c.wait.num=0 then (x,9)
  else if a.r < 0\/3<=a.r then (x,6)
  else if a.kind=3 then answer x a.c.toNat (x.replicas.getD a.r.toNat replica0)
  else
   let s:=encode c.wait
   if s.2≠0 then (x,s.2)
   else
    let h:=take (x.replicas.getD a.r.toNat replica0) s.1
    if h.2.2≠0 then (x,h.2.2)
    else settle x a.r.toNat h.1 h.2.1 (-1)
def act (x:Net) (a:Act):Net × Int :=
 if a.kind=1\/a.kind=2\/a.kind=3 then actBy x a
 else if a.kind=4\/a.kind=5\/a.kind=9 then actAt x a
 else if a.kind=6\/a.kind=7\/a.kind=8\/a.kind=10 then actMessage x a
 else (x,3)
def netNew (clients:Nat):Net :=
 ⟨[(repNew 0 keptNew).1,(repNew 1 keptNew).1,(repNew 2 keptNew).1],[stageNew,stageNew,stageNew],[],
  (List.range clients).map fun c:Nat=>⟨(c:Int)+1,1,req0⟩,[]⟩
def steps (x:Net):List Act->Net × List Int
 | []=>(x,[])
 | a :: l=>((steps (act x a).1 l).1,(act x a).2 :: (steps (act x a).1 l).2)
def outcome0:Outcome:=⟨[],[],[],[],[],[]⟩
def run (clients:Int) (l:List Act):Outcome × Int :=
 if clients < 1\/4 < clients then (outcome0,2)
 else if 300 < l.length then (outcome0,1)
 else
  let s:=steps (netNew clients.toNat) l
  (⟨s.1.replicas,s.1.slots,s.1.flying,s.1.clients,s.1.told,s.2⟩,0)
end Scu
namespace Scu
structure Gh where
 st:Int->Prop
 sl:Int->List Str
 vl:Int->List Str
 ack:Int->Int->Nat
 vw:Int->Int
def InR (j:Int):Prop:=0<=j/\j < 3
def Valid (G:Gh) (n:Int) (P:List Str):Prop :=
 P=[]\/∃ w j,w<=n/\G.st w/\InR j/\j≠leader w/\P.length<=G.ack j w/\P <+: G.vl w
def ComOk (G:Gh) (n:Int) (log:List Str) (c:Int):Prop :=
 0<=c/\c<=log.length/\Valid G n (log.take c.toNat)
structure VG (G:Gh) (j v:Int) (k:Kept):Prop where
 seen:v<=G.vw j
 lt:k.normal < v
 st:G.st k.normal
 lo:G.sl k.normal <+: k.log
 hi:k.log <+: G.vl k.normal
 led:∀ w,w < v->G.st w->leader w=j->w<=k.normal/\(k.normal=w->k.log=G.vl w)
 acked:∀ w,w < v->0 < G.ack j w->w<=k.normal/\(k.normal=w->G.ack j w<=k.log.length)
 com:ComOk G k.normal k.log k.commit
structure GoodG (G:Gh):Prop where
 nn:∀ v,G.st v->0<=v
 two:∀ v,G.st v->∀ i j,InR i->InR j->i≠j->v<=G.vw i\/v<=G.vw j
 pre:∀ v,G.st v->G.sl v <+: G.vl v
 ackLen:∀ j w,G.ack j w<=(G.vl w).length
 ackSt:∀ j w,0 < G.ack j w->G.st w/\w<=G.vw j
 lc1:∀ w v j,w < v->G.st w->G.st v->InR j->j≠leader w->∀ P,P <+: G.vl w->P.length<=G.ack j w->P <+: G.sl v
 lc2:∀ w v j,w < v->G.st w->G.st v->InR j->j≠leader w->G.vw j<=w->G.vl w <+: G.sl v
structure KeptOk (G:Gh) (i:Int) (k:Kept):Prop where
 view:G.vw i=k.view
 le:k.normal<=k.view
 calm:k.calm=true->k.normal=k.view
 wild:k.calm=false->k.normal < k.view
 st:G.st k.normal
 lo:G.sl k.normal <+: k.log
 hi:k.log <+: G.vl k.normal
 mine:leader k.normal=i->k.log=G.vl k.normal
 led:∀ w,G.st w->leader w=i->w<=k.normal
 acked:∀ w,0 < G.ack i w->w<=k.normal/\(k.normal=w->G.ack i w<=k.log.length)
 com:ComOk G k.normal k.log k.commit
structure GoodR (G:Gh) (i:Int) (r:Replica):Prop where
 inr:InR i
 me:r.me=i
 have3:r.have_.length=3
 wants3:r.wants.length=3
 gives3:r.gives.length=3
 given3:r.given.length=3
 kept:KeptOk G i r.kept
 given:∀ j,InR j->r.given.getD j.toNat false=true->r.kept.calm=false/\VG G j r.kept.view (r.gives.getD j.toNat kept0)
 self:r.given.getD i.toNat false=true->r.gives.getD i.toNat kept0=own r.kept
structure GoodM (G:Gh) (m:Message):Prop where
 lead:m.kind=1->G.st m.view/\G.sl m.view <+: m.log/\m.log <+: G.vl m.view/\ComOk G m.view m.log m.commit
 has:m.kind=2->m.n<=G.ack m.from_ m.view
 give:m.kind=4->VG G m.from_ m.view ⟨m.view,m.normal,false,m.log,m.commit⟩
structure Ext (a:Int) (G G':Gh):Prop where
 st:∀ v,G.st v->G'.st v
 sl:∀ v,G.st v->G'.sl v=G.sl v
 vl:∀ v,G.st v->G.vl v <+: G'.vl v
 ack:∀ j w,G.ack j w<=G'.ack j w
 vw:∀ j,G.vw j<=G'.vw j
 vwOther:∀ j,j≠a->G'.vw j=G.vw j
 ackOther:∀ j w,j≠a->G'.ack j w=G.ack j w
 stOther:∀ v,leader v≠a->(G'.st v↔G.st v)
 vlOther:∀ v,leader v≠a->G.st v->G'.vl v=G.vl v
 ackFrozen:∀ j w,w < G.vw j->G'.ack j w=G.ack j w
 stFrozen:∀ w,w < G.vw (leader w)->(G'.st w->G.st w)
 vlFrozen:∀ w,w < G.vw (leader w)->G.st w->G'.vl w=G.vl w
theorem Ext.refl (a:Int) (G:Gh):Ext a G G :=
 ⟨fun _ h=>h,fun _ _=>rfl,fun _ _=>List.prefix_refl _,fun _ _=>mC _,fun _=>Int.le_refl _,fun _ _=>rfl,fun _ _ _=>rfl,
  fun _ _=>Iff.rfl,fun _ _ _=>rfl,fun _ _ _=>rfl,fun _ _ h=>h,fun _ _ _=>rfl⟩
theorem Ext.trans {a:Int} {G H K:Gh} (h:Ext a G H) (k:Ext a H K):Ext a G K where
 st v hv:=k.st v (h.st v hv)
 sl v hv:=(k.sl v (h.st v hv)).trans (h.sl v hv)
 vl v hv:=(h.vl v hv).trans (k.vl v (h.st v hv))
 ack j w:=mD (h.ack j w) (k.ack j w)
 vw j:=Int.le_trans (h.vw j) (k.vw j)
 vwOther j hj:=(k.vwOther j hj).trans (h.vwOther j hj)
 ackOther j w hj:=(k.ackOther j w hj).trans (h.ackOther j w hj)
 stOther v hv:=(k.stOther v hv).trans (h.stOther v hv)
 vlOther v hv hs:=(k.vlOther v hv (h.st v hs)).trans (h.vlOther v hv hs)
 ackFrozen j w hw:=(k.ackFrozen j w (by have:=h.vw j;omega)).trans (h.ackFrozen j w hw)
 stFrozen w hw hs:=h.stFrozen w hw (k.stFrozen w (by have:=h.vw (leader w);omega) hs)
 vlFrozen w hw hs:=(k.vlFrozen w (by have:=h.vw (leader w);omega) (h.st w hs)).trans (h.vlFrozen w hw hs)
theorem Valid.ext {a:Int} {G G':Gh} {n:Int} {P:List Str} (e:Ext a G G') (h:Valid G n P):Valid G' n P:=by
 rcases h with h | ⟨w,j,h1,h2,h3,h4,h5,h6⟩
 ·exact .inl h
 exact .inr ⟨w,j,h1,e.st w h2,h3,h4,mD h5 (e.ack j w),h6.trans (e.vl w h2)⟩
theorem Valid.mono {G:Gh} {n m:Int} {P:List Str} (h:Valid G n P) (hm:n<=m):Valid G m P:=by
 rcases h with h | ⟨w,j,h1,h2⟩
 ·exact .inl h
 exact .inr ⟨w,j,by omega,h2⟩
theorem ComOk.ext {a:Int} {G G':Gh} {n:Int} {l:List Str} {c:Int} (e:Ext a G G') (h:ComOk G n l c):ComOk G' n l c:=⟨h.1,h.2.1,h.2.2.ext e⟩
theorem VG.ext {a:Int} {G G':Gh} {j v:Int} {k:Kept} (e:Ext a G G') (h:VG G j v k):VG G' j v k where
 seen:=Int.le_trans h.seen (e.vw j)
 lt:=h.lt
 st:=e.st _ h.st
 lo:=by rw [e.sl _ h.st];exact h.lo
 hi:=h.hi.trans (e.vl _ h.st)
 led w hw hs hl:=by
  have hv:w < G.vw (leader w):=by rw [hl];have:=h.seen;omega
  have Ha:=e.stFrozen w hv hs
  obtain ⟨h1,h2⟩:=h.led w hw Ha hl
  exact ⟨h1,fun hn=>by rw [e.vlFrozen w hv Ha];exact h2 hn⟩
 acked w hw ha:=by
  have hv:w < G.vw j:=by have:=h.seen;omega
  rw [e.ackFrozen j w hv] at ha ⊢
  exact h.acked w hw ha
 com:=h.com.ext e
theorem GoodM.ext {a:Int} {G G':Gh} {m:Message} (e:Ext a G G') (h:GoodM G m):GoodM G' m where
 lead hk:=by
  obtain ⟨h1,h2,h3,h4⟩:=h.lead hk
  exact ⟨e.st _ h1,by rw [e.sl _ h1];exact h2,h3.trans (e.vl _ h1),h4.ext e⟩
 has hk:=by have:=h.has hk;have:=e.ack m.from_ m.view;omega
 give hk:=(h.give hk).ext e
theorem KeptOk.ext {a i:Int} {G G':Gh} {k:Kept} (e:Ext a G G') (hi:i≠a) (h:KeptOk G i k):KeptOk G' i k where
 view:=(e.vwOther i hi).trans h.view
 le:=h.le
 calm:=h.calm
 wild:=h.wild
 st:=e.st _ h.st
 lo:=by rw [e.sl _ h.st];exact h.lo
 hi:=h.hi.trans (e.vl _ h.st)
 mine hl:=by rw [e.vlOther _ (by rw [hl];exact hi) h.st];exact h.mine hl
 led w hs hl:=h.led w ((e.stOther w (by rw [hl];exact hi)).1 hs) hl
 acked w ha:=by rw [e.ackOther i w hi] at ha ⊢;exact h.acked w ha
 com:=h.com.ext e
theorem GoodR.ext {a i:Int} {G G':Gh} {r:Replica} (e:Ext a G G') (hi:i≠a) (h:GoodR G i r):GoodR G' i r :=
 { h with kept:=h.kept.ext e hi,given:=fun j hj hg=>⟨(h.given j hj hg).1,(h.given j hj hg).2.ext e⟩ }
theorem Valid.agree {G:Gh} (g:GoodG G) {n m:Int} {P Q:List Str} (hp:Valid G n P) (hq:Valid G m Q):P <+: Q\/Q <+: P:=by
 rcases hp with rfl | ⟨w,j,h1,h2,h3,h4,h5,h6⟩
 ·exact .inl (List.nil_prefix)
 rcases hq with rfl | ⟨u,i,k1,k2,k3,k4,k5,k6⟩
 ·exact .inr (List.nil_prefix)
 rcases Int.lt_trichotomy w u with h | h | h
 ·have hu:P <+: G.vl u:=(g.lc1 w u j h h2 k2 h3 h4 P h6 h5).trans (g.pre u k2)
  exact List.prefix_or_prefix_of_prefix hu k6
 ·subst h
  exact List.prefix_or_prefix_of_prefix h6 k6
 have hw:Q <+: G.vl w:=(g.lc1 u w i h k2 h2 k3 k4 Q k6 k5).trans (g.pre w h2)
 exact List.prefix_or_prefix_of_prefix h6 hw
theorem ComOk.length {G:Gh} {n:Int} {l:List Str} {c:Int} (h:ComOk G n l c):(l.take c.toNat).length=c.toNat:=by
 rw [List.length_take];have:=h.1;have:=h.2.1;omega
theorem ComOk.max {G:Gh} {n:Int} {l:List Str} {c d:Int} (h:ComOk G n l c) (k:ComOk G n l d):ComOk G n l (max c d):=by
 rcases Int.le_total c d with h1 | h1
 ·rw [Int.max_eq_right h1];exact k
 rw [Int.max_eq_left h1];exact h
def Gh.begins (G:Gh) (v:Int) (l:List Str):Gh :=
 { G with st:=fun w=>w=v\/G.st w,sl:=fun w=>if w=v then l else G.sl w,vl:=fun w=>if w=v then l else G.vl w }
def Gh.longer (G:Gh) (v:Int) (l:List Str):Gh:={ G with vl:=fun w=>if w=v then l else G.vl w }
end Scu
namespace Scu
def EntG (A:Str->Prop) (G:Gh):Prop:=∀ v,G.st v->∀ e ∈ G.vl v,A e
def Stepped (A:Str->Prop) (G:Gh) (i:Int) (r r':Replica) (out:List Message):Prop :=
 ∃ G',Ext i G G'/\GoodG G'/\EntG A G'/\GoodR G' i r'/\(∀ m ∈ out,GoodM G' m)/\r.kept.commit<=r'.kept.commit
theorem Stepped.trans {A:Str->Prop} {G:Gh} {i:Int} {r r1 r2:Replica} {o1 o2:List Message}
 (h:Stepped A G i r r1 o1) (k:∀ G',Ext i G G'->GoodG G'->EntG A G'->GoodR G' i r1->Stepped A G' i r1 r2 o2):Stepped A G i r r2 (o1 ++ o2):=by
 obtain ⟨G1,e1,g1,a1,h1,m1,c1⟩:=h
 obtain ⟨G2,e2,g2,a2,h2,m2,c2⟩:=k G1 e1 g1 a1 h1
 refine ⟨G2,e1.trans e2,g2,a2,h2,fun m hm=>?_,Int.le_trans c1 c2⟩
 rcases List.mem_append.1 hm with hm | hm
 ·exact (m1 m hm).ext e2
 exact m2 m hm
theorem zFe {α:Type} (x d:α) (j:Int) (hj:InR j) : [x,x,x].getD j.toNat d=x:=by
 unfold InR at hj
 have:j=0\/j=1\/j=2:=by omega
 rcases this with rfl | rfl | rfl <;> rfl
theorem GoodR.fresh {G:Gh} {i:Int} {r:Replica} (hi:InR i) (hm:r.me=i) (hk:KeptOk G i r.kept):GoodR G i (fresh r) where
 inr:=hi
 me:=hm
 have3:=rfl
 wants3:=rfl
 gives3:=rfl
 given3:=rfl
 kept:=hk
 given j hj hg:=by rw [show (Scu.fresh r).given=[false,false,false] from rfl,zFe _ _ _ hj] at hg;cases hg
 self hg:=by rw [show (Scu.fresh r).given=[false,false,false] from rfl,zFe _ _ _ hi] at hg;cases hg
theorem GoodR.wants {G:Gh} {i:Int} {r:Replica} (h:GoodR G i r) (l:List Bool) (hl:l.length=3):GoodR G i { r with wants:=l } :=
 { h with wants3:=hl }
theorem KeptOk.gift {G:Gh} {i:Int} {k:Kept} (h:KeptOk G i k) (hc:k.calm=false):VG G i k.view (own k) where
 seen:=by rw [h.view];exact Int.le_refl _
 lt:=h.wild hc
 st:=h.st
 lo:=h.lo
 hi:=h.hi
 led w _ hs hl:=⟨h.led w hs hl,fun he=>by
  have Ha:k.normal=w:=he
  subst Ha
  exact h.mine hl⟩
 acked w _ ha:=h.acked w ha
 com:=h.com
theorem Stepped.same {A:Str->Prop} {G:Gh} {i:Int} {r:Replica} (g:GoodG G) (a:EntG A G) (h:GoodR G i r):Stepped A G i r r [] :=
 ⟨G,Ext.refl i G,g,a,h,by simp,Int.le_refl _⟩
end Scu
namespace Scu
theorem zBi {r:Replica} {v:Int} (h:r.kept.view<=v):(wantIf r v).1.kept.view=v\/(wantIf r v).1.kept.view=v:=by
 unfold wantIf
 split
 ·exact .inl rfl
 exact .inl (by show r.kept.view=v;omega)
theorem msgFault_ok {m:Message} (h:msgFault m=0):1<=m.kind/\m.kind<=4/\InR m.from_/\InR m.tq/\m.from_≠m.tq/\0<=m.view/\m.view<=1048576/\0<=m.n /\
 (m.kind=1->m.from_=leader m.view)/\(m.kind=2->m.tq=leader m.view)/\(m.kind=4->m.tq=leader m.view) /\
 keptFault ⟨m.view,m.normal,false,m.log,m.commit⟩=0:=by
 unfold msgFault at h
 split at h
 ·omega
 split at h
 ·omega
 split at h
 ·omega
 split at h
 ·omega
 unfold InR
 refine ⟨by omega,by omega,by omega,by omega,by omega,by omega,by omega,by omega,by omega,by omega,by omega,h⟩
end Scu
namespace Scu
def L (s:Str):List UInt8:=s.data.toList
theorem zHb {s t:Str} (h:L s=L t):s=t:=by
 apply ByteArray.ext
 exact Array.toList_inj.1 h
theorem zBm (s t:Str):L (s ++ t)=L s ++ L t:=by
 simp [L,ByteArray.data_append]
theorem zCs (s:Str):(L s).length=s.size:=by simp [L]
theorem zKr:L str0=[]:=rfl
theorem L_mk (l:List UInt8):L ⟨l.toArray⟩=l:=rfl
theorem zFf (s:Str) (a b:Nat):L (s.extract a b)=((L s).drop a).take (b - a):=by
 simp [L,ByteArray.data_extract]
theorem zLa (s:Str) (k:Nat):L (dropS s k)=(L s).drop k:=by
 unfold dropS
 rw [zFf,List.take_of_length_le (by rw [List.length_drop,zCs];omega)]
theorem size_zero_iff (s:Str):s.size=0↔s=str0:=by
 constructor
 ·intro h
  apply zHb
  rw [zKr]
  exact List.length_eq_zero_iff.1 (by rw [zCs];exact h)
 rintro rfl;rfl
theorem zFx (s:Str):s ++ str0=s:=zHb (by rw [zBm,zKr,List.append_nil])
theorem zCj (a b c:Str):a ++ b ++ c=a ++ (b ++ c):=zHb (by simp only [zBm,List.append_assoc])
theorem zCa (a b:Str):dropS (a ++ b) a.size=b:=zHb (by rw [zLa,zBm,<- zCs,List.drop_left])
theorem zGl (s:Str) (i:Nat):byteAt s i=(((L s).getD i 0).toNat:Int):=rfl
theorem zAm (a b:Str) (i:Nat) (h:i < a.size):byteAt (a ++ b) i=byteAt a i:=by
 rw [zGl,zGl,zBm]
 simp [List.getElem?_append_left (by rw [zCs];exact h:i < (L a).length)]
theorem zBf (n:Int):((b8 n).toNat:Int)=n % 256:=by
 unfold b8
 rw [UInt8.toNat_ofNat']
 omega
theorem numBytes_size (n:Int):(numBytes n).size=4:=rfl
theorem zEv (n:Int) (t:Str) (h0:0<=n) (h1:n<=1073741824):num4 (numBytes n ++ t)=n:=by
 unfold num4
 rw [zAm _ _ 0 (by rw [numBytes_size];omega),zAm _ _ 1 (by rw [numBytes_size];omega),zAm _ _ 2 (by rw [numBytes_size];omega),zAm _ _ 3 (by rw [numBytes_size];omega)]
 have e0:byteAt (numBytes n) 0=(n / 16777216) % 256:=zBf _
 have e1:byteAt (numBytes n) 1=(n / 65536) % 256:=zBf _
 have e2:byteAt (numBytes n) 2=(n / 256) % 256:=zBf _
 have e3:byteAt (numBytes n) 3=n % 256:=zBf _
 rw [e0,e1,e2,e3]
 omega
theorem zCm (n:Int) (t:Str) (h0:0<=n) (h1:n<=1073741824):readNumber (numBytes n ++ t)=(n,t,0):=by
 unfold readNumber
 rw [if_neg (by rw [ByteArray.size_append,numBytes_size];omega),zEv n t h0 h1,if_neg (by omega)]
 have:dropS (numBytes n ++ t) 4=t:=zCa (numBytes n) t
 rw [this]
theorem textBytes_size (s:Str):(textBytes s).size=1+s.size:=by
 unfold textBytes
 rw [ByteArray.size_append]
 rfl
theorem zDl (s t:Str) (h:s.size<=255):byteAt (textBytes s ++ t) 0=s.size:=by
 rw [zAm _ _ 0 (by rw [textBytes_size];omega)]
 unfold textBytes
 have e1:byteAt ((⟨#[b8 (s.size:Int)]⟩:Str) ++ s) 0=byteAt (⟨#[b8 (s.size:Int)]⟩:Str) 0:=zAm _ _ 0 (show 0 < 1 by omega)
 rw [e1]
 have:byteAt (⟨#[b8 (s.size:Int)]⟩:Str) 0=(s.size:Int) % 256:=zBf _
 rw [this]
 omega
theorem zCt (s t:Str) (h:s.size<=255):readText (textBytes s ++ t)=(s,t,0):=by
 unfold readText
 have Ha:(textBytes s ++ t).size=1+s.size+t.size:=by rw [ByteArray.size_append,textBytes_size]
 rw [if_neg (by rw [Ha];omega),zDl s t h,if_neg (by rw [Ha];omega),show (1+(s.size:Int)).toNat=1+s.size from by omega]
 have h1:dropS (textBytes s ++ t) (1+s.size)=t:=by
  have:=zCa (textBytes s) t
  rwa [textBytes_size] at this
 have h2:(textBytes s ++ t).extract 1 (1+s.size)=s:=by
  apply zHb
  rw [zFf,zBm]
  unfold textBytes
  rw [zBm,L_mk]
  simp [<- zCs]
 rw [h1,h2]
def Pre (p s:Str):Prop:=L p <+: L s
theorem Pre.size {p s:Str} (h:Pre p s):p.size<=s.size:=by
 have:=List.IsPrefix.length_le h
 rwa [zCs,zCs] at this
theorem Pre.split {p a b:Str} (h:Pre p (a ++ b)) (hs:a.size<=p.size):∃ q,p=a ++ q/\Pre q b:=by
 unfold Pre at h
 rw [zBm] at h
 have ha:L a <+: L p:=List.prefix_of_prefix_length_le (List.prefix_append _ _) h (by rw [zCs,zCs];exact hs)
 obtain ⟨t,ht⟩:=ha
 refine ⟨⟨t.toArray⟩,zHb (by rw [zBm,L_mk];exact ht.symm),?_⟩
 unfold Pre
 rw [L_mk]
 rw [<- ht] at h
 exact (List.prefix_append_right_inj (L a)).1 h
theorem opFault_ok {o:Op} (h:opFault o=0):1<=o.kind/\o.kind<=4/\0<=o.at_/\o.at_ < 6/\0<=o.snap/\o.snap<=3/\o.data.size<=8 /\
 (o.kind≠3->o.snap=0)/\(o.kind=4->o.at_=0)/\(o.kind≠1->o.data=str0):=by
 unfold opFault at h
 split at h
 ·omega
 split at h
 ·omega
 split at h
 ·omega
 split at h
 ·omega
 rename_i h1 h2 h3 h4
 refine ⟨by omega,by omega,by omega,by omega,by omega,by omega,by omega,by omega,by omega,fun hk=>?_⟩
 apply (size_zero_iff _).1
 omega
theorem reqFault_ok {r:Request} (h:reqFault r=0):1<=r.client/\r.client<=4/\1<=r.num/\r.num<=1048576/\opFault r.op=0:=by
 unfold reqFault at h
 split at h
 ·omega
 exact ⟨by omega,by omega,by omega,by omega,h⟩
theorem reqBytes_size (r:Request):(reqBytes r).size=9+r.op.data.size:=by
 unfold reqBytes
 rw [ByteArray.size_append,ByteArray.size_append,numBytes_size,textBytes_size]
 show 4+4+_=_
 omega
theorem zDr {r:Request} (h:reqFault r=0):decode (reqBytes r)=(r,0):=by
 obtain ⟨h1,h2,h3,h4,h5⟩:=reqFault_ok h
 obtain ⟨o1,o2,o3,o4,o5,o6,o7,o8,o9,o10⟩:=opFault_ok h5
 have Ha:=reqBytes_size r
 have hd:dropS (reqBytes r) 4=numBytes r.num ++ (textBytes r.op.data ++ str0):=by
  have:=zCa (⟨#[b8 r.client,b8 r.op.kind,b8 r.op.at_,b8 r.op.snap]⟩:Str) (numBytes r.num ++ textBytes r.op.data)
  unfold reqBytes
  rw [zCj,zFx]
  exact this
 have hb:∀ i,i < 4->byteAt (reqBytes r) i=byteAt (⟨#[b8 r.client,b8 r.op.kind,b8 r.op.at_,b8 r.op.snap]⟩:Str) i:=fun i hi=>by
  unfold reqBytes
  rw [zCj]
  exact zAm _ _ i hi
 have b0:byteAt (reqBytes r) 0=r.client:=by
  rw [hb 0 (by omega)]
  have:byteAt (⟨#[b8 r.client,b8 r.op.kind,b8 r.op.at_,b8 r.op.snap]⟩:Str) 0=r.client % 256:=zBf _
  omega
 have b1:byteAt (reqBytes r) 1=r.op.kind:=by
  rw [hb 1 (by omega)]
  have:byteAt (⟨#[b8 r.client,b8 r.op.kind,b8 r.op.at_,b8 r.op.snap]⟩:Str) 1=r.op.kind % 256:=zBf _
  omega
 have b2:byteAt (reqBytes r) 2=r.op.at_:=by
  rw [hb 2 (by omega)]
  have:byteAt (⟨#[b8 r.client,b8 r.op.kind,b8 r.op.at_,b8 r.op.snap]⟩:Str) 2=r.op.at_ % 256:=zBf _
  omega
 have b3:byteAt (reqBytes r) 3=r.op.snap:=by
  rw [hb 3 (by omega)]
  have:byteAt (⟨#[b8 r.client,b8 r.op.kind,b8 r.op.at_,b8 r.op.snap]⟩:Str) 3=r.op.snap % 256:=zBf _
  omega
 unfold decode
 rw [if_neg (by omega),if_neg (by omega),hd,zCm _ _ (by omega) (by omega)]
 simp only [ne_eq,not_true_eq_false,if_false]
 rw [zCt _ _ (by omega),b0,b1,b2,b3]
 simp [h]
theorem zDs:∀ {l:List Str},logFault l=0->∀ e ∈ l,(decode e).2=0
 | [],_,_,he=>by simp at he
 | x :: l,h,e,he=>by
   unfold logFault at h
   split at h
   ·exact absurd h (by assumption)
   ·rcases List.mem_cons.1 he with rfl | he
    ·omega
    exact zDs h e he
theorem zDt:∀ {l:List Str},(∀ e ∈ l,(decode e).2=0)->logFault l=0
 | [],_=>rfl
 | x :: l,h=>by
   unfold logFault
   rw [if_neg (by have:=h x List.mem_cons_self;omega)]
   exact zDt fun e he=>h e (List.mem_cons_of_mem _ he)
theorem keptFault_ok {k:Kept} (h:keptFault k=0):0<=k.view/\k.view<=1048576/\0<=k.normal/\k.normal<=k.view/\(k.calm=true->k.normal=k.view) /\
 k.log.length<=60/\0<=k.commit/\k.commit<=k.log.length/\∀ e ∈ k.log,(decode e).2=0:=by
 unfold keptFault at h
 split at h
 ·omega
 split at h
 ·omega
 split at h
 ·omega
 rename_i h1 h2 h3
 refine ⟨by omega,by omega,by omega,by omega,fun hc=>?_,by omega,by omega,by omega,zDs h⟩
 apply Classical.byContradiction
 intro hn
 exact h1 (.inr (.inr (.inr (.inr ⟨hc,hn⟩))))
theorem zDg {k:Kept} (h1:0<=k.view) (h2:k.view<=1048576) (h3:0<=k.normal) (h4:k.normal<=k.view) (h5:k.calm=true->k.normal=k.view)
 (h6:k.log.length<=60) (h7:0<=k.commit) (h8:k.commit<=k.log.length) (h9:∀ e ∈ k.log,(decode e).2=0):keptFault k=0:=by
 unfold keptFault
 rw [if_neg,if_neg (by omega),if_neg (by omega)]
 ·exact zDt h9
 rintro (h | h | h | h | ⟨h,h'⟩)
 ·omega
 ·omega
 ·omega
 ·omega
 exact h' (h5 h)
def nums (k:Kept) (gen:Int):List Int:=[gen,k.view,k.normal,if k.calm then 1 else 0,k.commit,k.log.length]
end Scu
namespace Scu
theorem repFault_ok {r:Replica} (h:repFault r=0):InR r.me/\r.have_.length=3/\r.wants.length=3/\r.gives.length=3/\r.given.length=3 /\
 (∀ x ∈ r.have_,0<=x/\x<=r.kept.log.length)/\(∀ g ∈ r.gives,keptFault g=0)/\keptFault r.kept=0:=by
 unfold repFault at h
 split at h
 ·omega
 split at h
 ·omega
 split at h
 ·omega
 rename_i h1 h2 h3
 refine ⟨by unfold InR;omega,by omega,by omega,by omega,by omega,?_,?_,h⟩
 ·intro x hx
  simp only [Bool.or_eq_true,List.any_eq_true,decide_eq_true_eq,not_or,not_exists,not_and] at h3
  have:=h3.1 x hx
  omega
 intro g hg
 simp only [Bool.or_eq_true,List.any_eq_true,decide_eq_true_eq,not_or,not_exists,not_and] at h3
 have:=h3.2 g hg
 omega
theorem zBu {r:Replica} (h1:InR r.me) (h2:r.have_.length=3) (h3:r.wants.length=3) (h4:r.gives.length=3) (h5:r.given.length=3)
 (h6:∀ x ∈ r.have_,0<=x/\x<=r.kept.log.length) (h7:∀ g ∈ r.gives,keptFault g=0) (h8:keptFault r.kept=0):repFault r=0:=by
 unfold repFault
 rw [if_neg (by unfold InR at h1;omega),if_neg (by omega),if_neg,h8]
 simp only [Bool.or_eq_true,List.any_eq_true,decide_eq_true_eq,not_or,not_exists,not_and]
 refine ⟨fun x hx=>?_,fun g hg=>?_⟩
 ·have:=h6 x hx;omega
 have:=h7 g hg;omega
theorem keptFault0:keptFault kept0=0:=by decide
theorem zLb {α:Type} {l:List α} {n:Nat} {x y:α} (h:y ∈ l.set n x):y=x\/y ∈ l:=by
 rcases List.mem_or_eq_of_mem_set h with h | h
 ·exact .inr h
 exact .inl h
def ToR (l:List Message):Prop:=∀ m ∈ l,InR m.tq
theorem ToR.nil:ToR []:=fun m hm=>by simp at hm
theorem ToR.one {m:Message} (h:InR m.tq):ToR [m]:=fun x hx=>by simp only [List.mem_singleton] at hx;subst hx;exact h
end Scu
namespace Scu
def AllIn (L:List Str):Prop:=∀ e ∈ L,(decode e).2=0
theorem AllIn.snoc {L:List Str} {s:Str} (h:AllIn L) (hs:(decode s).2=0):AllIn (L ++ [s]):=fun e he=>by
 rcases List.mem_append.1 he with he | he
 ·exact h e he
 rw [List.mem_singleton] at he;subst he;exact hs
structure LeadA (a:Replica) (L:List Str):Prop where
 me:a.me=0
 kept:a.kept=⟨0,0,true,L,(L.length:Int)⟩
 ok:repFault a=0
structure FollowB (b:Replica) (j:Int) (L:List Str):Prop where
 me:b.me=j
 kept:∃ c:Int,0<=c/\c<=L.length/\b.kept=⟨0,0,true,L,c⟩
 ok:repFault b=0
def leadMsg (j:Int) (n:Nat) (L:List Str):Message:=⟨1,0,j,0,0,(n:Int),0,L⟩
def hasMsg (j:Int) (n:Nat):Message:=⟨2,j,0,0,0,0,(n:Int),[]⟩
theorem zDu {L:List Str} (h:AllIn L) (hl:L.length<=60) {c:Int} (h0:0<=c) (h1:c<=L.length) (b:Bool):keptFault ⟨0,0,b,L,c⟩=0 :=
 zDg (by show (0:Int)<=0;omega) (by show (0:Int)<=1048576;omega) (by show (0:Int)<=0;omega) (by show (0:Int)<=0;omega) (fun _=>rfl) hl h0 h1 h
theorem lead_new:∃ a,repNew 0 ⟨0,0,true,[],0⟩=(a,0)/\LeadA a [] :=
 ⟨_,rfl,rfl,rfl,by decide⟩
theorem follow_new {j:Int} (hj:j=1\/j=2):∃ b,repNew j ⟨0,0,true,[],0⟩=(b,0)/\FollowB b j []:=by
 rcases hj with rfl | rfl
 ·exact ⟨_,rfl,rfl,⟨0,by omega,by simp,rfl⟩,by decide⟩
 exact ⟨_,rfl,rfl,⟨0,by omega,by simp,rfl⟩,by decide⟩
theorem zFg {r:Replica} (hm:r.me=0) {L:List Str} {n:Nat} (hk:r.kept=⟨0,0,true,L,(n:Int)⟩):leadOn r=[leadMsg 1 n L,leadMsg 2 n L]:=by
 unfold leadOn toAll
 rw [hm,hk]
 rfl
theorem lead_take {a:Replica} {L:List Str} {s:Str} (h:LeadA a L) (hs:(decode s).2=0) (hL:AllIn L) (hl:L.length < 60) :
 ∃ x,take a s=(x,[leadMsg 1 L.length (L ++ [s]),leadMsg 2 L.length (L ++ [s])],0)/\x.me=0/\x.kept=⟨0,0,true,L ++ [s],(L.length:Int)⟩/\repFault x=0:=by
 have Ha:leads a=true:=by unfold leads;rw [h.kept,h.me];rfl
 have e:take a s=(({ a with kept:={ a.kept with log:=a.kept.log ++ [s] } } : Replica),leadOn { a with kept:={ a.kept with log:=a.kept.log ++ [s] } },0):=by
  unfold take
  rw [if_neg (fun hh=>hh h.ok),if_neg (by rw [Ha];simp),if_neg (by rw [h.kept];show ¬ L.length=60;omega),if_neg (fun hh=>hh hs)]
 refine ⟨{ a with kept:={ a.kept with log:=a.kept.log ++ [s] } },?_,h.me,?_,?_⟩
 ·rw [e,zFg (r:={ a with kept:={ a.kept with log:=a.kept.log ++ [s] } }) (L:=L ++ [s]) (n:=L.length) h.me (by rw [h.kept])]
 ·show ({ a.kept with log:=a.kept.log ++ [s] } : Kept)=_
  rw [h.kept]
 obtain ⟨f1,f2,f3,f4,f5,f6,f7,f8⟩:=repFault_ok h.ok
 refine zBu f1 f2 f3 f4 f5 (fun x hx=>?_) f7 ?_
 ·have:=f6 x hx
  show 0<=x/\x<=((a.kept.log ++ [s]).length:Nat)
  rw [List.length_append]
  omega
 show keptFault { a.kept with log:=a.kept.log ++ [s] } = 0
 rw [h.kept]
 exact zDu (c:=(L.length:Int)) (hL.snoc hs) (by simp;omega) (by omega) (by simp;omega) true
theorem follow_hear {b:Replica} {j:Int} {L:List Str} {s:Str} (hj:j=1\/j=2) (h:FollowB b j L) (hs:(decode s).2=0) (hL:AllIn L) (hl:L.length < 60) :
 ∃ y,hear b (leadMsg j L.length (L ++ [s]))=(y,[hasMsg j (L.length+1)],0)/\FollowB y j (L ++ [s]):=by
 obtain ⟨c,Hd,He,hk⟩:=h.kept
 have Ha:=hL.snoc hs
 have Hb:msgFault (leadMsg j L.length (L ++ [s]))=0:=by
  unfold msgFault leadMsg
  simp only
  rw [if_neg (by omega),if_neg (by omega),if_neg (by simp),if_neg (by unfold leader;simp)]
  exact zDu Ha (by simp;omega) (by omega) (by simp;omega) false
 have Hc:b.kept.log.length < (L ++ [s]).length:=by rw [hk];simp
 have e:hearLead b (leadMsg j L.length (L ++ [s]))=(({ b with kept:=⟨0,0,true,L ++ [s],(L.length:Int)⟩ } : Replica),[hasMsg j (L.length+1)]):=by
  unfold hearLead leadMsg
  simp only
  rw [if_neg (by rw [hk];simp),if_pos Hc]
  simp only [hk,h.me]
  have hm:max c (min (L.length:Int) ((L ++ [s]).length:Int))=L.length:=by rw [List.length_append];simp;omega
  rw [hm]
  simp [hasMsg,msg0]
 refine ⟨{ b with kept:=⟨0,0,true,L ++ [s],(L.length:Int)⟩ },?_,h.me,⟨L.length,by omega,by simp;omega,rfl⟩,?_⟩
 ·unfold hear
  rw [if_neg (fun hh=>hh h.ok),if_neg (fun hh=>hh Hb),if_neg (by rw [h.me];exact fun hh=>hh rfl),if_neg (by rw [hk];show ¬ (0:Int) < 0;omega)]
  unfold hearIt
  rw [if_pos (show (leadMsg j L.length (L ++ [s])).kind=1 from rfl),e]
 obtain ⟨f1,f2,f3,f4,f5,f6,f7,f8⟩:=repFault_ok h.ok
 refine zBu f1 f2 f3 f4 f5 (fun x hx=>?_) f7 ?_
 ·have:=f6 x hx
  rw [hk] at this
  show 0<=x/\x<=((L ++ [s]).length:Nat)
  rw [List.length_append]
  simp only at this
  omega
 exact zDu Ha (by simp;omega) (by omega) (by simp;omega) true
theorem lead_hear {x:Replica} {j:Int} {L:List Str} {s:Str} (hj:j=1\/j=2) (hm:x.me=0) (hk:x.kept=⟨0,0,true,L ++ [s],(L.length:Int)⟩) (hf:repFault x=0) (hs:(decode s).2=0) (hL:AllIn L) (hl:L.length < 60) :
 ∃ z on,hear x (hasMsg j (L.length+1))=(z,on,0)/\on.length=2/\z.kept.commit=((L.length+1:Nat):Int)/\LeadA z (L ++ [s]):=by
 have Hf:=hL.snoc hs
 obtain ⟨f1,f2,f3,f4,f5,f6,f7,f8⟩:=repFault_ok hf
 have Hg:msgFault (hasMsg j (L.length+1))=0:=by
  unfold msgFault hasMsg
  simp only
  rw [if_neg (by omega),if_neg (by omega),if_neg (by simp),if_neg (by unfold leader;simp)]
  exact zDu (fun e he=>by cases he) (by simp) (by omega) (by simp) false
 have Hh:leads x=true:=by unfold leads;rw [hk,hm];rfl
 have hn:min (hasMsg j (L.length+1)).n (x.kept.log.length:Int)=((L.length+1:Nat):Int):=by
  rw [hk]
  show min ((L.length+1:Nat):Int) ((L ++ [s]).length:Int)=_
  rw [List.length_append]
  simp
 obtain ⟨r1,Ha⟩:∃ r1:Replica,r1 = { x with have_:=x.have_.set j.toNat (max (x.have_.getD j.toNat 0) ((L.length+1:Nat):Int)),kept:={ x.kept with commit:=((L.length+1:Nat):Int) } }:=⟨_,rfl⟩
 have e:hearHas x (hasMsg j (L.length+1))=(r1,leadOn r1):=by
  unfold hearHas
  rw [if_neg (by rw [Hh,hk];simp [hasMsg])]
  simp only [hn]
  rw [if_pos (by rw [hk];show (L.length:Int) < _;omega),Ha]
  rfl
 have Hb:r1.kept=⟨0,0,true,L ++ [s],((L ++ [s]).length:Int)⟩:=by
  rw [Ha]
  show ({ x.kept with commit:=((L.length+1:Nat):Int) } : Kept)=_
  rw [hk,List.length_append]
  rfl
 have Hd:r1.me=0:=by rw [Ha];exact hm
 refine ⟨r1,leadOn r1,?_,?_,by rw [Hb,List.length_append];rfl,Hd,Hb,?_⟩
 ·unfold hear
  rw [if_neg (fun hh=>hh hf),if_neg (fun hh=>hh Hg),if_neg (by rw [hm];exact fun hh=>hh rfl),if_neg (by rw [hk];show ¬ (0:Int) < 0;omega)]
  unfold hearIt
  rw [if_neg (show ¬ (hasMsg j (L.length+1)).kind=1 from by unfold hasMsg;simp),if_pos (show (hasMsg j (L.length+1)).kind=2 from rfl),e]
 ·rw [zFg (r:=r1) Hd (n:=(L ++ [s]).length) Hb]
  rfl
 have Hc:(r1.kept.log.length:Int)=L.length+1:=by rw [Hb];simp
 have hh:r1.have_=x.have_.set j.toNat (max (x.have_.getD j.toNat 0) ((L.length+1:Nat):Int)):=by rw [Ha]
 have Hi:(x.kept.log.length:Int)=L.length+1:=by rw [hk];simp
 refine zBu (by rw [Ha];exact f1) (by rw [hh];simp [f2]) (by rw [Ha];exact f3) (by rw [Ha];exact f4) (by rw [Ha];exact f5) (fun y hy=>?_) (by rw [Ha];exact f7) ?_
 ·rw [hh] at hy
  rcases zLb hy with e | hy
  ·have h1:x.have_.getD j.toNat 0<=(L.length:Int)+1:=by
    rw [mI]
    by_cases He:j.toNat < x.have_.length
    ·rw [mH He]
     have:=f6 _ (List.getElem_mem He)
     show x.have_[j.toNat]<=_
     omega
    rw [List.getElem?_eq_none (by omega)]
    show (0:Int)<=_
    omega
   rw [Hc,e]
   omega
  have:=f6 y hy
  rw [Hc]
  omega
 rw [Hb]
 exact zDu Hf (by simp;omega) (by omega) (by omega) true
end Scu
namespace Scu
section
variable {α:Type}
end
section
variable {s:Str}
end
end Scu
namespace Scu
def best0:Kept × Int × Int:=(kept0,-1,0)
end Scu
namespace Scu
def AllOk (P:List Str):Prop:=∀ e ∈ P,(decode e).2=0
end Scu
namespace Scu
structure Raw where
 kind:Int
 a:Int
 b:Int
 c:Int
deriving DecidableEq
def picked (n many:Int):Int:=(if n < 0 then -(n+1) else n) % many
theorem picked_lt {n many:Int} (h:0 < many):0<=picked n many/\picked n many < many:=⟨Int.emod_nonneg _ (by omega),Int.emod_lt_of_pos _ h⟩
def numText (n:Int):Str:=⟨(Go.Lib.itoa n).toArray⟩
def wText (n:Int):Str:=⟨#[119]⟩ ++ numText n
def rawOp (r:Raw):Op :=
 if picked r.kind 12 < 5 then ⟨1,picked r.a 6,0,wText (picked r.b 1000)⟩
 else if picked r.kind 12=5 then ⟨2,picked r.a 6,0,str0⟩
 else if picked r.kind 12=6 then ⟨4,0,0,str0⟩
 else ⟨3,picked r.a 6,max 0 (picked r.b 6 - 2),str0⟩
theorem zDv {i:Nat} (h:i < 1000):(Go.Lib.decDigits i).length<=3:=by
 rcases Nat.lt_or_ge i 10 with h1 | h1
 ·rw [Go.Lib.decDigits_one h1];simp
 rcases Nat.lt_or_ge i 100 with h2 | h2
 ·rw [Go.Lib.decDigits_two (by omega) h2];simp
 rw [Go.Lib.decDigits,dif_neg (by omega),List.length_append,Go.Lib.decDigits_two (by omega) (by omega)];simp
theorem wText_size {n:Int} (h0:0<=n) (h:n < 1000):(wText n).size<=4:=by
 unfold wText numText
 have h1:(Go.Lib.itoa n).length<=3:=by
  unfold Go.Lib.itoa
  rw [if_neg (by omega)]
  exact zDv (by omega)
 rw [ByteArray.size_append]
 simp only [ByteArray.size]
 simp
 omega
theorem zJa (r:Raw):opFault (rawOp r)=0:=by
 have Hb:=picked_lt (n:=r.kind) (many:=12) (by omega)
 have h6:=picked_lt (n:=r.a) (many:=6) (by omega)
 have hb:=picked_lt (n:=r.b) (many:=6) (by omega)
 have Ha:=picked_lt (n:=r.b) (many:=1000) (by omega)
 have hs:=wText_size Ha.1 Ha.2
 have e0:str0.size=0:=rfl
 unfold rawOp
 split
 ·unfold opFault;simp only;rw [if_neg (by omega),if_neg (by omega),if_neg (by omega),if_neg (by omega)]
 split
 ·unfold opFault;simp only;rw [if_neg (by omega),if_neg (by omega),if_neg (by omega),if_neg (by omega)]
 split
 ·unfold opFault;simp only;rw [if_neg (by omega),if_neg (by omega),if_neg (by omega),if_neg (by omega)]
 unfold opFault;simp only;rw [if_neg (by omega),if_neg (by omega),if_neg (by omega),if_neg (by omega)]
def reqStep (st:List Request × List Int) (r:Raw):List Request × List Int :=
 let c:=1+picked r.c 4
 let nx:=if st.2.getD c.toNat 0=0\/0 < picked r.a 4 then st.2.set c.toNat (st.2.getD c.toNat 0+1) else st.2
 (st.1 ++ [⟨c,nx.getD c.toNat 0,rawOp r⟩],nx)
def reqsOf (l:List Raw):List Request × List Int:=l.foldl reqStep ([],[0,0,0,0,0])
def requests (l:List Raw) (most:Nat):List Request:=(reqsOf (l.take most)).1
theorem reqsOf_snoc (l:List Raw) (r:Raw):reqsOf (l ++ [r])=reqStep (reqsOf l) r:=by unfold reqsOf;rw [List.foldl_append];rfl
theorem zJb {α:Type} {P:List α->Prop} (h0:P []) (h1:∀ l a,P l->P (l ++ [a])):∀ l,P l:=by
 intro l
 have:∀ n (l:List α),l.length=n->P l:=by
  intro n
  induction n with
  | zero=>intro l hl;rw [List.length_eq_zero_iff] at hl;subst hl;exact h0
  | succ n ih =>
    intro l hl
    have Ha:l≠[]:=by intro e;subst e;cases hl
    rw [<- List.dropLast_concat_getLast Ha]
    exact h1 _ _ (ih _ (by rw [List.length_dropLast];omega))
 exact this _ l rfl
structure ReqsOk (l:List Raw) (st:List Request × List Int):Prop where
 len:st.1.length=l.length
 five:st.2.length=5
 nums:∀ x ∈ st.2,0<=x/\x<=l.length
 each:∀ q ∈ st.1,1<=q.client/\q.client<=4/\1<=q.num/\q.num<=l.length/\opFault q.op=0
theorem getD_mem {α:Type} {l:List α} {n:Nat} {d:α} (h:n < l.length):l.getD n d ∈ l:=by
 rw [mI,mH h]
 exact List.getElem_mem h
theorem reqs_ok:∀ l:List Raw,ReqsOk l (reqsOf l):=by
 refine zJb ⟨rfl,rfl,?_,?_⟩ fun l r ih=>?_
 ·intro x hx
  simp only [reqsOf,List.foldl_nil,List.mem_cons,List.not_mem_nil,or_false] at hx
  rcases hx with rfl | rfl | rfl | rfl | rfl <;> simp
 ·intro q hq;cases hq
 rw [reqsOf_snoc]
 obtain ⟨h1,h2,h3,h4⟩:=ih
 have hc:=picked_lt (n:=r.c) (many:=4) (by omega)
 have Ha:(1+picked r.c 4).toNat < (reqsOf l).2.length:=by omega
 have hg:=h3 _ (getD_mem (d:=0) Ha)
 have Hb:∀ x ∈ (reqStep (reqsOf l) r).2,0<=x/\x<=(l.length:Int)+1:=by
  intro x hx
  simp only [reqStep] at hx
  split at hx
  ·rcases List.mem_or_eq_of_mem_set hx with h' | rfl
   ·have:=h3 x h';omega
   omega
  have:=h3 x hx;omega
 have Hc:(reqStep (reqsOf l) r).2.length=5:=by
  simp only [reqStep]
  split
  ·rw [List.length_set];exact h2
  exact h2
 refine ⟨by simp [reqStep,h1],Hc,fun x hx=>by have:=Hb x hx;simp;omega,fun q hq=>?_⟩
 simp only [reqStep,List.mem_append,List.mem_singleton] at hq
 simp only [List.length_append,List.length_cons,List.length_nil]
 rcases hq with hq | hq
 ·obtain ⟨a,b,c,d,e⟩:=h4 q hq
  exact ⟨a,b,c,by omega,e⟩
 subst hq
 refine ⟨by simp only;omega,by simp only;omega,?_,?_,zJa r⟩
 ·simp only
  split
  ·rw [mI,List.getElem?_set_self Ha]
   simp only [Option.getD_some]
   omega
  rename_i hn
  have:(reqsOf l).2.getD (1+picked r.c 4).toNat 0≠0:=fun e=>hn (.inl e)
  omega
 have hm:=Hb _ (getD_mem (l:=(reqStep (reqsOf l) r).2) (d:=0) (by rw [Hc];omega):(reqStep (reqsOf l) r).2.getD (1+picked r.c 4).toNat 0 ∈ _)
 have Hd:=hm.2
 simp only [reqStep] at Hd
 simp only
 omega
theorem requests_ok (l:List Raw) (most:Nat) (hm:most<=1048576):∀ q ∈ requests l most,reqFault q=0:=by
 intro q hq
 obtain ⟨a,b,c,d,e⟩:=(reqs_ok (l.take most)).each q hq
 have:(l.take most).length<=most:=by rw [List.length_take];omega
 unfold reqFault
 rw [if_neg (by omega)]
 exact e
end Scu
namespace Scu
theorem encode_ok {r:Request} (h:reqFault r=0):encode r=(reqBytes r,0):=by unfold encode;rw [if_neg (by simp [h])]
def entries (l:List Request):List Str:=l.map reqBytes
theorem entries_snoc (l:List Request) (r:Request):entries (l ++ [r])=entries l ++ [reqBytes r]:=by unfold entries;rw [List.map_append];rfl
theorem entries_length (l:List Request):(entries l).length=l.length:=List.length_map _
theorem requests_length (l:List Raw) (most:Nat):(requests l most).length=min most l.length:=by
 unfold requests
 rw [(reqs_ok (l.take most)).len,List.length_take]
end Scu
namespace Scu
theorem entries_ok {l:List Request} (h:∀ q ∈ l,reqFault q=0):AllOk (entries l):=by
 intro e he
 unfold entries at he
 obtain ⟨q,hq,rfl⟩:=List.mem_map.1 he
 rw [zDr (h q hq)]
theorem entries_size {l:List Request} (h:∀ q ∈ l,reqFault q=0):∀ e ∈ entries l,e.size<=17:=by
 intro e he
 unfold entries at he
 obtain ⟨q,hq,rfl⟩:=List.mem_map.1 he
 have:=reqBytes_size q
 have:=(opFault_ok (reqFault_ok (h q hq)).2.2.2.2).2.2.2.2.2.2.1
 omega
end Scu
namespace Go.Proofs.YtjnjhmkgfjikfaaDoor
theorem mA {P : Prop} (h : P) : RowKit.Hid P := h
theorem mG (B : Nat) (w : World) : RowKit.Below B w w := RowKit.Below.refl B w
def signs : List Nat := [104, 97, 114, 110, 101, 115, 115, 32, 56, 100, 97, 54, 56, 100, 100, 98, 102, 101, 50, 100, 57, 56, 50, 57, 99, 52, 52, 102, 49, 56, 98, 54, 51, 50, 50, 48, 49, 49, 102, 99, 102, 53, 48, 52, 51, 99, 54, 57, 49, 97, 50, 56, 50, 98, 51, 49, 51, 57, 99, 55, 53, 54, 53, 51, 51, 54, 97, 55, 56, 55, 54, 49, 32, 99, 117, 116, 32, 97, 116, 32, 115, 99, 117, 108, 108, 105, 110, 103, 47, 115, 99, 117, 108, 108, 105, 110, 103, 107, 101, 101, 112, 46, 76, 101, 97, 100, 101, 114, 115, 76, 101, 97, 100, 32, 115, 99, 117, 108, 108, 105, 110, 103, 47, 115, 99, 117, 108, 108, 105, 110, 103, 107, 101, 101, 112, 46, 86, 105, 101, 119, 115, 66, 101, 103, 105, 110]
theorem zJc : Tryd.prog.initOrder = String.ofList (signs.map Char.ofNat) := by kernel_rfl
theorem zHc : Tryd.prog.initOrder.toList = signs.map Char.ofNat := by rw [zJc]; exact String.toList_ofList
def words : List (List Nat) := [[99, 117, 116], [97, 116], [115, 99, 117, 108, 108, 105, 110, 103, 47, 115, 99, 117, 108, 108, 105, 110, 103, 107, 101, 101, 112, 46, 76, 101, 97, 100, 101, 114, 115, 76, 101, 97, 100], [115, 99, 117, 108, 108, 105, 110, 103, 47, 115, 99, 117, 108, 108, 105, 110, 103, 107, 101, 101, 112, 46, 86, 105, 101, 119, 115, 66, 101, 103, 105, 110]]
theorem zEw : behindMainWord (wordsSigns Tryd.prog.initOrder.toList) = words.map (·.map Char.ofNat) := by
  rw [zHc]
  kernel_rfl
def makeAt (P : Program) (W : List (List Char)) : Option Make := match W with
  | c :: rest => if c == "gc".toList || c == "spec".toList then some .whole else if c == "cut".toList || (c == "finals".toList && rest.head? == some "cut".toList) then some .cut else if c == "carried".toList then some .carried else if P.headLifts.isEmpty then none else some (.lifted P.headLifts)
  | [] => none
def mayAt (P : Program) (W : List (List Char)) : Bool := match W with
  | c :: rest =>
    ((c == "gc".toList || c == "spec".toList) && (rest.isEmpty || rest.head? == some "stop".toList)) ||
    (c == "carried".toList && rest.take 2 == ["gc".toList, "cut".toList] && !P.laysLater && !P.bearsReflect) ||
    ((stripLifts liftWords (c :: rest)).2.head? == some "cut".toList &&
      ((stripLifts liftWords (c :: rest)).1.contains "finals" || !P.laysLater) && ((stripLifts liftWords (c :: rest)).1.contains "reflectrows" || !P.bearsReflect) &&
      ((stripLifts liftWords (c :: rest)).1.contains "reflectrows" || !(stripLifts liftWords (c :: rest)).1.contains "leanrows") &&
      P.doorFits (stripLifts liftWords (c :: rest)).1)
  | [] => false
def liftsAt (ws : List (List Char)) : Bool :=
  (ws.head? == some "carried".toList && ws.take 3 != ["carried".toList, "gc".toList, "cut".toList]) || (if (stripLifts liftWords ws).2.head? == some "cut".toList then (stripLifts liftWords ws).1 else []).contains "finals"
theorem zLc {P : Program} {W : List (List Char)} (h : behindMainWord (wordsSigns P.initOrder.toList) = W) : P.make = makeAt P W := by subst h; rfl
theorem zMh {P : Program} {W : List (List Char)} (h : behindMainWord (wordsSigns P.initOrder.toList) = W) : P.mayEnter = mayAt P W := by subst h; rfl
theorem zJd {P : Program} {W : List (List Char)} (h : behindMainWord (wordsSigns P.initOrder.toList) = W) : P.liftsFinal = liftsAt W := by subst h; rfl
theorem zHd : Tryd.prog.mayEnter = true := (zMh zEw).trans (by kernel_rfl)
theorem zMi : Tryd.prog.make = some .cut := (zLc zEw).trans (by kernel_rfl)
theorem zLd : Tryd.prog.liftsFinal = false := (zJd zEw).trans (by kernel_rfl)
theorem zMj : laidOutB Tryd.prog = true := by kernel_rfl
theorem zMk : mapsRowed Tryd.prog = true := by kernel_rfl
theorem zMl : Tryd.prog.plainKeys = true := by kernel_rfl
theorem zLe : Tryd.prog.stopsHeard = true := by kernel_rfl
theorem zLf : Tryd.prog.stops = [] := by kernel_rfl
theorem zLg : Tryd.prog.stopKnobs = [] := by kernel_rfl
/-- The closed facts of a row, out of those of the program and what is left of them. -/
theorem zGm {f : FuncId} {fn : Func} {s : ChangeSpec} {c : OpenClaim} (hm : c.make = .cut) (hl : c.lifted = false) (hp : c.plainKeys = true) (hst : c.stops = []) (hk : c.knobs = []) (hsh : c.shortTexts = none)
    (h1 : (c.wf (OpenSpec.ofChange s) && (fn.params.all (Tryd.prog.readableRec ·) && namedTie Tryd.prog c.named s.vars)) = true)
    (h2 : (c.inPlace == Tryd.prog.inPlace f) = true) (h3 : (c.unfollowed == Tryd.prog.unfollowed f) = true) (h4 : (c.recurses == Tryd.prog.recurses f) = true) (h5 : (c.named == Tryd.prog.varsNamed f) = true)
    (h6 : ((c.maps == (fn.params.toList ++ s.plain.varTypes Tryd.prog).any (Tryd.prog.mapsRec ·)) && (c.ifaces == (fn.params.toList ++ s.plain.varTypes Tryd.prog).any (Tryd.prog.ifacesRec ·)) && (c.mapsOut == Tryd.prog.mapsAmong fn.resultTypes.toList) &&
      (c.loops == (fn.params.toList ++ s.plain.varTypes Tryd.prog).any (Tryd.prog.loopsFrom ·)) && (c.wideKeys == (fn.params.toList ++ s.plain.varTypes Tryd.prog ++ fn.resultTypes.toList).any (Tryd.prog.wideKeysFrom ·)) &&
      s.vars.all (Tryd.prog.varReadable ·) && fn.resultTypes.all (fun t => Tryd.prog.readableRec t && decide (t < Tryd.prog.types.size)) && (c.ifacesOut == fn.resultTypes.toList.any (Tryd.prog.ifacesRec ·)) && (c.loopsOut == fn.resultTypes.toList.any (Tryd.prog.loopsFrom ·))) = true)
    (h7 : ((c.kinds == (if c.domain.isEmpty then [] else fn.params.toList.map fun t => match Tryd.prog.underlying t with | some (.int k) => some k | _ => none)) && (c.pinned == c.pinnedBy) &&
      ((c.veiled == (fn.params.toList ++ s.plain.varTypes Tryd.prog ++ fn.resultTypes.toList).any (Tryd.prog.veiledRec ·)) && c.veiledFits Tryd.prog fn.params.toList (fn.params.toList ++ s.plain.varTypes Tryd.prog ++ fn.resultTypes.toList))) = true) :
    joinedFacts Tryd.prog f fn s c = true := by
  simp only [Bool.and_eq_true] at h1 h6 h7
  obtain ⟨a1, a2, a3⟩ := h1
  obtain ⟨⟨⟨⟨⟨⟨⟨⟨b1, b2⟩, b3⟩, b4⟩, b5⟩, b6⟩, b7⟩, b8⟩, b9⟩ := h6
  obtain ⟨⟨c1, c2⟩, c3, c4⟩ := h7
  unfold joinedFacts
  simp only [Bool.and_eq_true]
  refine ⟨⟨⟨⟨⟨⟨⟨⟨⟨⟨⟨⟨⟨⟨⟨⟨⟨⟨⟨⟨⟨⟨⟨⟨⟨⟨⟨⟨⟨⟨⟨a1, zMj⟩, zMk⟩, a2⟩, a3⟩, ?_⟩, ?_⟩, ?_⟩, ?_⟩, h2⟩, h3⟩, h4⟩, h5⟩, b1⟩, b2⟩, b3⟩, b4⟩, b5⟩, b6⟩, b7⟩, b8⟩, b9⟩, ?_⟩, ?_⟩, zLe⟩, zHd⟩, ?_⟩, ?_⟩, c1⟩, c2⟩, c3⟩, c4⟩
  · rw [hst]; rfl
  · rw [zLf]; rfl
  · rw [hk]; rfl
  · rw [zLg]; rfl
  · rw [hp, zMl]; rfl
  · rw [hsh]; rfl
  · rw [hl, zLd]; rfl
  · rw [zMi, hm]; exact beq_self_eq_true _
end Go.Proofs.YtjnjhmkgfjikfaaDoor

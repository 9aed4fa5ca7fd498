/- Part 1: words and walks under the laws of the whole. -/
set_option linter.unusedVariables false
set_option linter.unusedSimpArgs false
set_option maxHeartbeats 4000000
set_option maxRecDepth 100000
theorem mB {P Q : Prop} (h : P) (k : Q) : P ∧ Q := ⟨h, k⟩
theorem mC (n : Nat) : n ≤ n := Nat.le_refl n
theorem mD {n m k : Nat} (h : n ≤ m) (i : m ≤ k) : n ≤ k := Nat.le_trans h i
theorem mE (n : Nat) : 0 ≤ n := Nat.zero_le n
theorem mF {n m k : Nat} (h : n < m) (i : m ≤ k) : n < k := Nat.lt_of_lt_of_le h i
theorem mH {α : Type _} {l : List α} {i : Nat} (h : i < l.length) : l[i]? = some l[i] := List.getElem?_eq_getElem h
theorem mI {α : Type _} {l : List α} {i : Nat} {a : α} : l.getD i a = (l[i]?).getD a := List.getD_eq_getElem?_getD ..
theorem mJ {α : Sort _} (a : α) : ∃ x, x = a := ⟨a, rfl⟩
theorem mK {α : Sort _} (a : α) : ∃ x, a = x := ⟨a, rfl⟩
namespace Scu
abbrev Str:=ByteArray
structure Op where
 kind:Int
 at_:Int
 snap:Int
 data:Str
deriving DecidableEq
structure Reply where
 code:Int
 n:Int
 data:Str
deriving DecidableEq
structure Volume where
 now:List Str
 snaps:List (List Str)
deriving DecidableEq
structure Request where
 client:Int
 num:Int
 op:Op
deriving DecidableEq
structure Last where
 num:Int
 reply:Reply
deriving DecidableEq
structure State where
 volume:Volume
 lasts:List Last
deriving DecidableEq
structure Kept where
 view:Int
 normal:Int
 calm:Bool
 log:List Str
 commit:Int
deriving DecidableEq
structure Replica where
 me:Int
 kept:Kept
 have_:List Int
 wants:List Bool
 gives:List Kept
 given:List Bool
deriving DecidableEq
structure Message where
 kind:Int
 from_:Int
 tq:Int
 view:Int
 normal:Int
 commit:Int
 n:Int
 log:List Str
deriving DecidableEq
structure Customer where
 id:Int
 next:Int
 wait:Request
deriving DecidableEq
structure Act where
 kind:Int
 c:Int
 r:Int
 k:Int
 n:Int
 op:Op
deriving DecidableEq
structure Told where
 request:Request
 reply:Reply
deriving DecidableEq
structure Outcome where
 replicas:List Replica
 slots:List (List Str)
 flying:List Message
 clients:List Customer
 told:List Told
 codes:List Int
deriving DecidableEq
def str0:Str:=ByteArray.empty
def op0:Op:=⟨0,0,0,str0⟩
def reply0:Reply:=⟨0,0,str0⟩
def vol0:Volume:=⟨[],[]⟩
def req0:Request:=⟨0,0,op0⟩
def last0:Last:=⟨0,reply0⟩
def state0:State:=⟨vol0,[]⟩
def kept0:Kept:=⟨0,0,false,[],0⟩
def replica0:Replica:=⟨0,kept0,[],[],[],[]⟩
def msg0:Message:=⟨0,0,0,0,0,0,0,[]⟩
def b8 (n:Int):UInt8:=UInt8.ofNat (n % 256).toNat
def numBytes (n:Int):Str:=⟨#[b8 (n / 16777216),b8 (n / 65536),b8 (n / 256),b8 n]⟩
def number (n:Int):Str × Int:=if n < 0\/1073741824 < n then (str0,2) else (numBytes n,0)
def textBytes (s:Str):Str:=⟨#[b8 s.size]⟩ ++ s
def text (s:Str):Str × Int:=if 255 < s.size then (str0,1) else (textBytes s,0)
def byteAt (s:Str) (i:Nat):Int:=((s.data.toList.getD i 0).toNat:Int)
def num4 (s:Str):Int:=byteAt s 0*16777216+byteAt s 1*65536+byteAt s 2*256+byteAt s 3
def dropS (s:Str) (k:Nat):Str:=s.extract k s.size
def readNumber (s:Str):Int × Str × Int :=
 if s.size < 4 then (0,str0,5)
 else if 1073741824 < num4 s then (0,str0,4)
 else (num4 s,dropS s 4,0)
def readText (s:Str):Str × Str × Int :=
 if s.size=0 then (str0,str0,5)
 else if (s.size:Int) - 1 < byteAt s 0 then (str0,str0,5)
 else (s.extract 1 (1+byteAt s 0).toNat,dropS s (1+byteAt s 0).toNat,0)
def sealStep (p:Int × Int) (b:UInt8):Int × Int :=
 let x:=(p.1+b.toNat) % 65521
 (x,(p.2+x) % 65521)
def sealXY (l:List UInt8):Int × Int:=l.foldl sealStep (1,0)
def sealS (s:Str):Str :=
 let p:=sealXY s.data.toList
 ⟨#[b8 (p.2 / 256),b8 p.2,b8 (p.1 / 256),b8 p.1]⟩
def volNew:Volume:=⟨List.replicate 6 str0,[]⟩
def sectorsOk (l:List Str):Bool:=l.length == 6 && l.all fun s=>decide (s.size<=8)
def volOk (v:Volume):Bool:=sectorsOk v.now && decide (v.snaps.length<=3) && v.snaps.all sectorsOk
def volFault (v:Volume):Int:=if volOk v then 0 else 8
def opFault (o:Op):Int :=
 if o.kind < 1\/4 < o.kind then 3
 else if o.at_ < 0\/6<=o.at_\/o.snap < 0\/3 < o.snap then 2
 else if (o.kind≠3/\o.snap≠0)\/(o.kind=4/\o.at_≠0)\/(o.kind≠1/\o.data.size≠0) then 4
 else if 8 < o.data.size then 1 else 0
def doIt (v:Volume) (o:Op):Volume × Reply :=
 if o.kind=1\/o.kind=2 then (⟨v.now.set o.at_.toNat o.data,v.snaps⟩,reply0)
 else if o.kind=4 then
  if v.snaps.length=3 then (v,{ reply0 with code:=7 }) else (⟨v.now,v.snaps ++ [v.now]⟩,{ reply0 with n:=v.snaps.length+1 })
 else if o.snap=0 then (v,{ reply0 with data:=v.now.getD o.at_.toNat str0 })
 else if (v.snaps.length:Int) < o.snap then (v,{ reply0 with code:=6 })
 else (v,{ reply0 with data:=(v.snaps.getD (o.snap - 1).toNat []).getD o.at_.toNat str0 })
def volDo (v:Volume) (o:Op):Volume × Reply × Int :=
 if volFault v≠0 then (vol0,reply0,volFault v)
 else if opFault o≠0 then (vol0,reply0,opFault o)
 else ((doIt v o).1,(doIt v o).2,0)
def reqFault (r:Request):Int:=if r.client < 1\/4 < r.client\/r.num < 1\/1048576 < r.num then 2 else opFault r.op
def reqBytes (r:Request):Str:=⟨#[b8 r.client,b8 r.op.kind,b8 r.op.at_,b8 r.op.snap]⟩ ++ numBytes r.num ++ textBytes r.op.data
def encode (r:Request):Str × Int:=if reqFault r≠0 then (str0,reqFault r) else (reqBytes r,0)
def decode (s:Str):Request × Int :=
 if 40 < s.size then (req0,1)
 else if s.size < 4 then (req0,5)
 else
  let a:=readNumber (dropS s 4)
  if a.2.2≠0 then (req0,a.2.2) else
  let b:=readText a.2.1
  if b.2.2≠0 then (req0,b.2.2) else
  if b.2.1≠str0 then (req0,4) else
  let r:Request:=⟨byteAt s 0,a.1,⟨byteAt s 1,byteAt s 2,byteAt s 3,b.1⟩⟩
  if reqFault r≠0 then (req0,reqFault r) else (r,0)
def stateNew:State:=⟨volNew,List.replicate 4 last0⟩
def lastsOk (l:List Last):Bool:=l.length == 4 && l.all fun x=>decide (0<=x.num) && decide (x.num<=1048576)
def stateFault (s:State):Int:=if lastsOk s.lasts then volFault s.volume else 8
def applyIt (s:State) (r:Request):State :=
 if r.num<=(s.lasts.getD (r.client - 1).toNat last0).num then s
 else ⟨(doIt s.volume r.op).1,s.lasts.set (r.client - 1).toNat ⟨r.num,(doIt s.volume r.op).2⟩⟩
def apply (s:State) (e:Str):State × Int :=
 if stateFault s≠0 then (state0,stateFault s)
 else if (decode e).2≠0 then (state0,(decode e).2)
 else (applyIt s (decode e).1,0)
def playFrom (s:State):List Str->State × Int
 | []=>(s,0)
 | e :: l=>if (apply s e).2≠0 then (state0,(apply s e).2) else playFrom (apply s e).1 l
def play (l:List Str):State × Int:=playFrom stateNew l
def logFault:List Str->Int
 | []=>0
 | e :: l=>if (decode e).2≠0 then (decode e).2 else logFault l
def keptFault (k:Kept):Int :=
 if k.view < 0\/1048576 < k.view\/k.normal < 0\/k.view < k.normal\/(k.calm=true/\k.normal≠k.view) then 2
 else if 60 < k.log.length then 1
 else if k.commit < 0\/(k.log.length:Int) < k.commit then 2
 else logFault k.log
def catS:List Str->Str
 | []=>str0
 | s :: l=>s ++ catS l
def keptBody (k:Kept) (gen:Int):Str :=
 numBytes gen ++ numBytes k.view ++ numBytes k.normal ++ numBytes (if k.calm then 1 else 0) ++ numBytes k.commit ++ numBytes k.log.length ++ catS (k.log.map textBytes)
def keptBytes (k:Kept) (gen:Int):Str:=sealS (keptBody k gen) ++ keptBody k gen
def stageEncode (k:Kept) (gen:Int):Str × Int :=
 if keptFault k≠0 then (str0,keptFault k)
 else if gen < 0\/1073741824 < gen then (str0,2)
 else (keptBytes k gen,0)
def readNumbers:Nat->Str->List Int × Str × Int
 | 0,s=>([],s,0)
 | n+1,s =>
   let a:=readNumber s
   if a.2.2≠0 then ([],str0,a.2.2) else
   let b:=readNumbers n a.2.1
   if b.2.2≠0 then ([],str0,b.2.2) else (a.1 :: b.1,b.2.1,0)
def readTexts:Nat->Str->List Str × Str × Int
 | 0,s=>([],s,0)
 | n+1,s =>
   let a:=readText s
   if a.2.2≠0 then ([],str0,a.2.2) else
   let b:=readTexts n a.2.1
   if b.2.2≠0 then ([],str0,b.2.2) else (a.1 :: b.1,b.2.1,0)
def stageDecode (s:Str):Kept × Int × Int :=
 if 4000 < s.size then (kept0,0,1)
 else if s.size < 4 then (kept0,0,5)
 else if sealS (dropS s 4)≠s.extract 0 4 then (kept0,0,11)
 else
  let a:=readNumbers 6 (dropS s 4)
  if a.2.2≠0 then (kept0,0,a.2.2) else
  let l:=a.1
  if 1 < l.getD 3 0\/60 < l.getD 5 0 then (kept0,0,4) else
  let b:=readTexts (l.getD 5 0).toNat a.2.1
  if b.2.2≠0 then (kept0,0,b.2.2) else
  if b.2.1≠str0 then (kept0,0,4) else
  let k:Kept:=⟨l.getD 1 0,l.getD 2 0,l.getD 3 0 == 1,b.1,l.getD 4 0⟩
  if keptFault k≠0 then (kept0,0,keptFault k) else (k,l.getD 0 0,0)
def keptNew:Kept:={ kept0 with calm:=true }
def stageNew:List Str:=[keptBytes keptNew 0,str0]
def load (l:List Str):Kept × Int × Int × Int :=
 if l.length≠2 then (kept0,0,0,4) else
 let a:=stageDecode (l.getD 0 str0)
 let b:=stageDecode (l.getD 1 str0)
 if a.2.2≠0/\b.2.2≠0 then (kept0,0,0,13)
 else if a.2.2≠0\/(b.2.2=0/\a.2.1 < b.2.1) then (b.1,b.2.1,1,0)
 else (a.1,a.2.1,0,0)
def upTo (s:Str) (n:Int):Str:=if 0<=n/\n < s.size then s.extract 0 n.toNat else s
def store (l:List Str) (k:Kept) (upto:Int):List Str × Int :=
 let a:=load l
 if a.2.2.2≠0 then ([],a.2.2.2)
 else if a.2.1=1073741824 then ([],7)
 else if keptFault k≠0 then ([],keptFault k)
 else if upto < -1 then ([],2)
 else (l.set (1 - a.2.2.1).toNat (upTo (keptBytes k (a.2.1+1)) upto),0)
def repNew (me:Int) (k:Kept):Replica × Int :=
 if me < 0\/3<=me then (replica0,2)
 else if keptFault k≠0 then (replica0,keptFault k)
 else (⟨me,k,[0,0,0],[false,false,false],[kept0,kept0,kept0],[false,false,false]⟩,0)
def repFault (r:Replica):Int :=
 if r.me < 0\/3<=r.me then 2
 else if r.have_.length≠3\/r.wants.length≠3\/r.gives.length≠3\/r.given.length≠3 then 8
 else if r.have_.any (fun h=>decide (h < 0) || decide ((r.kept.log.length:Int) < h)) || r.gives.any (fun g=>decide (keptFault g≠0)) then 8
 else keptFault r.kept
def leader (view:Int):Int:=view % 3
def leads (r:Replica):Bool:=r.kept.calm && decide (leader r.kept.view=r.me)
def msgFault (m:Message):Int :=
 if m.kind < 1\/4 < m.kind then 3
 else if m.from_ < 0\/3<=m.from_\/m.tq < 0\/3<=m.tq\/m.from_=m.tq\/m.view < 0\/1048576 < m.view\/m.n < 0\/60 < m.n then 2
 else if (m.kind≠4/\m.normal≠0)\/(m.kind≠2/\m.n≠0)\/((m.kind=2\/m.kind=3)/\(m.commit≠0\/m.log≠[])) then 4
 else if (m.kind=1/\m.from_≠leader m.view)\/((m.kind=2\/m.kind=4)/\m.tq≠leader m.view) then 4
 else keptFault ⟨m.view,m.normal,false,m.log,m.commit⟩
def toAll (me view:Int) (m:Message):List Message :=
 ([0,1,2].filter fun i=>decide (i≠me)).map fun i=>{ m with from_:=me,tq:=i,view:=view }
def fresh (r:Replica):Replica :=
 { r with have_:=[0,0,0],wants:=[false,false,false],gives:=[kept0,kept0,kept0],given:=[false,false,false] }
def leadOn (r:Replica):List Message:=toAll r.me r.kept.view { msg0 with kind:=1,commit:=r.kept.commit,log:=r.kept.log }
def want (r:Replica) (view:Int):Replica × List Message :=
 let r1:=fresh { r with kept:={ r.kept with view:=view,calm:=false } }
 let r2:={ r1 with wants:=r1.wants.set r.me.toNat true }
 (r2,toAll r.me view { msg0 with kind:=3 })
def own (k:Kept):Kept:={ k with calm:=false }
def better (a b:Kept):Bool:=decide (b.normal < a.normal) || (decide (a.normal=b.normal) && decide (b.log.length < a.log.length))
def bestOf (l:List (Kept × Bool)):Kept:=l.foldl (fun b g=>if g.2 && better g.1 b then g.1 else b) { kept0 with normal:=-1 }
def maxCommit (l:List (Kept × Bool)):Int:=l.foldl (fun c g=>if g.2 then max c g.1.commit else c) 0
def begun (r:Replica):Replica × List Message :=
 if r.given.getD r.me.toNat false=false then (r,[])
 else if r.given.countP id < 2 then (r,[])
 else
  let l:=r.gives.zip r.given
  let b:=bestOf l
  let r1:=fresh { r with kept:=⟨r.kept.view,r.kept.view,true,b.log,min (maxCommit l) b.log.length⟩ }
  (r1,leadOn r1)
def give1 (r:Replica) (i:Int) (k:Kept):Replica :=
 { r with gives:=r.gives.set i.toNat (own k),given:=r.given.set i.toNat true }
def take1 (r:Replica) (i:Int) (k:Kept):Replica × List Message:=begun (give1 r i k)
def hearLead (r:Replica) (m:Message):Replica × List Message :=
 let k:=r.kept
 let r1 :=
  if k.view < m.view\/k.calm=false then
   fresh { r with kept:=⟨m.view,m.view,true,m.log,max m.commit (min k.commit m.log.length)⟩ }
  else if k.log.length < m.log.length then { r with kept:={ k with log:=m.log } } else r
 let r2:={ r1 with kept:={ r1.kept with commit:=max r1.kept.commit (min m.commit r1.kept.log.length) } }
 (r2,[{ msg0 with kind:=2,from_:=r.me,tq:=m.from_,view:=r2.kept.view,n:=r2.kept.log.length }])
def hearHas (r:Replica) (m:Message):Replica × List Message :=
 if m.view≠r.kept.view\/leads r=false then (r,[])
 else
  let n:=min m.n r.kept.log.length
  let r1:={ r with have_:=r.have_.set m.from_.toNat (max (r.have_.getD m.from_.toNat 0) n) }
  if r.kept.commit < n then
   let r2:={ r1 with kept:={ r.kept with commit:=n } }
   (r2,leadOn r2)
  else (r1,[])
def wantIf (r:Replica) (v:Int):Replica × List Message:=if r.kept.view < v then want r v else (r,[])
def hearWant (r:Replica) (m:Message):Replica × List Message :=
 let a:=wantIf r m.view
 if a.1.kept.calm=true\/a.1.wants.getD m.from_.toNat false=true then a
 else
  let r1:={ a.1 with wants:=a.1.wants.set m.from_.toNat true }
  let tq:=leader r1.kept.view
  if tq=r1.me then
   let b:=take1 r1 tq r1.kept
   (b.1,a.2 ++ b.2)
  else (r1,a.2 ++ [{ msg0 with kind:=4,from_:=r1.me,tq:=tq,view:=r1.kept.view,normal:=r1.kept.normal,commit:=r1.kept.commit,log:=r1.kept.log }])
def hearGive (r:Replica) (m:Message):Replica × List Message :=
 let a:=wantIf r m.view
 if a.1.kept.calm=true then a
 else
  let r1:=if a.1.given.getD a.1.me.toNat false=false then give1 a.1 a.1.me a.1.kept else a.1
  let b:=take1 r1 m.from_ ⟨m.view,m.normal,false,m.log,m.commit⟩
  (b.1,a.2 ++ b.2)
def hearIt (r:Replica) (m:Message):Replica × List Message :=
 if m.kind=1 then hearLead r m else if m.kind=2 then hearHas r m else if m.kind=3 then hearWant r m else hearGive r m
def hear (r:Replica) (m:Message):Replica × List Message × Int :=
 if repFault r≠0 then (replica0,[],repFault r)
 else if msgFault m≠0 then (replica0,[],msgFault m)
 else if m.tq≠r.me then (replica0,[],6)
 else if m.view < r.kept.view then (replica0,[],9)
 else ((hearIt r m).1,(hearIt r m).2,0)
def take (r:Replica) (e:Str):Replica × List Message × Int :=
 if repFault r≠0 then (replica0,[],repFault r)
 else if leads r=false then (replica0,[],14)
 else if r.kept.log.length=60 then (replica0,[],7)
 else if (decode e).2≠0 then (replica0,[],(decode e).2)
 else
  let r1:={ r with kept:={ r.kept with log:=r.kept.log ++ [e] } }
  (r1,leadOn r1,0)
def tick (r:Replica):Replica × List Message × Int :=
 if repFault r≠0 then (replica0,[],repFault r)
 else if leads r=true then (r,leadOn r,0)
 else if r.kept.calm=true then (r,[{ msg0 with kind:=2,from_:=r.me,tq:=leader r.kept.view,view:=r.kept.view,n:=r.kept.log.length }],0)
 else
  let r1:={ r with wants:=r.wants.set r.me.toNat true }
  (r1,toAll r.me r.kept.view { msg0 with kind:=3 },0)
def alarm (r:Replica):Replica × List Message × Int :=
 if repFault r≠0 then (replica0,[],repFault r)
 else if r.kept.view=1048576 then (replica0,[],7)
 else ((want r (r.kept.view+1)).1,(want r (r.kept.view+1)).2,0)
structure Net where
 replicas:List Replica
 slots:List (List Str)
 flying:List Message
 clients:List Customer
 told:List Told
deriving DecidableEq
def sendAll (f l:List Message):List Message:=l.foldl (fun f m=>if f.length < 80 then f ++ [m] else f) f
def crash (x:Net) (r:Nat):Net × Int :=
 let a:=load (x.slots.getD r [])
 if a.2.2.2≠0 then (x,a.2.2.2)
 else
  let b:=repNew r a.1
  ({ x with replicas:=x.replicas.set r b.1 },b.2)
def settle (x:Net) (r:Nat) (next:Replica) (out:List Message) (upto:Int):Net × Int :=
 if next.kept=(x.replicas.getD r replica0).kept/\upto < 0 then
  ({ x with replicas:=x.replicas.set r next,flying:=sendAll x.flying out },0)
 else
  let a:=store (x.slots.getD r []) next.kept upto
  if a.2≠0 then (x,a.2)
  else
   let y:={ x with slots:=x.slots.set r a.1 }
   if 0<=upto then crash y r
   else ({ y with replicas:=y.replicas.set r next,flying:=sendAll y.flying out },0)
def actMessage (x:Net) (a:Act):Net × Int :=
 if a.k < 0\/(x.flying.length:Int)<=a.k then (x,6)
 else
  let m:=x.flying.getD a.k.toNat msg0
  if a.kind=8 then
   if x.flying.length=80 then (x,7) else ({ x with flying:=x.flying ++ [m] },0)
  else if a.kind=10/\(a.n < 0\/4000 < a.n) then (x,2)
  else
   let y:={ x with flying:=x.flying.eraseIdx a.k.toNat }
   if a.kind=7 then (y,0)
   else
    let h:=hear (x.replicas.getD m.tq.toNat replica0) m
    if h.2.2≠0 then (y,h.2.2)
    else settle y m.tq.toNat h.1 h.2.1 (if a.kind=10 then a.n else -1)
def actAt (x:Net) (a:Act):Net × Int :=
 if a.r < 0\/3<=a.r then (x,6)
 else if a.kind=9 then crash x a.r.toNat
 else
  let h:=if a.kind=5 then alarm (x.replicas.getD a.r.toNat replica0) else tick (x.replicas.getD a.r.toNat replica0)
  if h.2.2≠0 then (x,h.2.2)
  else settle x a.r.toNat h.1 h.2.1 (-1)
def cust0:Customer:=⟨0,0,req0⟩
def answer (x:Net) (c:Nat) (r:Replica):Net × Int :=
 let cu:=x.clients.getD c cust0
 if leads r=false then (x,14)
 else
  let s:=play (r.kept.log.take r.kept.commit.toNat)
  if s.2≠0 then (x,s.2)
  else
   let l:=s.1.lasts.getD (cu.id - 1).toNat last0
   if l.num≠cu.wait.num then (x,12)
   else ({ x with told:=x.told ++ [⟨cu.wait,l.reply⟩],clients:=x.clients.set c { cu with wait:=req0 } },0)
def actBy (x:Net) (a:Act):Net × Int :=
 if a.c < 0\/(x.clients.length:Int)<=a.c then (x,6)
 else
  let c:=x.clients.getD a.c.toNat cust0
  if a.kind=1 then
   if 0 < c.wait.num then (x,12)
   else if opFault a.op≠0 then (x,opFault a.op)
   else ({ x with clients:=x.clients.set a.c.toNat ⟨c.id,c.next+1,⟨c.id,c.next,a.op⟩⟩ },0)
  else if c.wait.num=0 then (x,9)
  else if a.r < 0\/3<=a.r then (x,6)
  else if a.kind=3 then answer x a.c.toNat (x.replicas.getD a.r.toNat replica0)
  else
   let s:=encode c.wait
   if s.2≠0 then (x,s.2)
   else
    let h:=take (x.replicas.getD a.r.toNat replica0) s.1
    if h.2.2≠0 then (x,h.2.2)
    else settle x a.r.toNat h.1 h.2.1 (-1)
def act (x:Net) (a:Act):Net × Int :=
 if a.kind=1\/a.kind=2\/a.kind=3 then actBy x a
 else if a.kind=4\/a.kind=5\/a.kind=9 then actAt x a
 else if a.kind=6\/a.kind=7\/a.kind=8\/a.kind=10 then actMessage x a
 else (x,3)
def netNew (clients:Nat):Net :=
 ⟨[(repNew 0 keptNew).1,(repNew 1 keptNew).1,(repNew 2 keptNew).1],[stageNew,stageNew,stageNew],[],
  (List.range clients).map fun c:Nat=>⟨(c:Int)+1,1,req0⟩,[]⟩
def steps (x:Net):List Act->Net × List Int
 | []=>(x,[])
 | a :: l=>((steps (act x a).1 l).1,(act x a).2 :: (steps (act x a).1 l).2)
def outcome0:Outcome:=⟨[],[],[],[],[],[]⟩
def run (clients:Int) (l:List Act):Outcome × Int :=
 if clients < 1\/4 < clients then (outcome0,2)
 else if 300 < l.length then (outcome0,1)
 else
  let s:=steps (netNew clients.toNat) l
  (⟨s.1.replicas,s.1.slots,s.1.flying,s.1.clients,s.1.told,s.2⟩,0)
end Scu
namespace Scu
def L (s:Str):List UInt8:=s.data.toList
theorem zMe {s t:Str} (h:L s=L t):s=t:=by
 apply ByteArray.ext
 exact Array.toList_inj.1 h
theorem zCt (s t:Str):L (s ++ t)=L s ++ L t:=by
 simp [L,ByteArray.data_append]
theorem zFb (s:Str):(L s).length=s.size:=by simp [L]
theorem zRv:L str0=[]:=rfl
theorem L_mk (l:List UInt8):L ⟨l.toArray⟩=l:=rfl
theorem zGi (s:Str) (a b:Nat):L (s.extract a b)=((L s).drop a).take (b - a):=by
 simp [L,ByteArray.data_extract]
theorem zXs (s:Str) (k:Nat):L (dropS s k)=(L s).drop k:=by
 unfold dropS
 rw [zGi,List.take_of_length_le (by rw [List.length_drop,zFb];omega)]
theorem size_zero_iff (s:Str):s.size=0↔s=str0:=by
 constructor
 ·intro h
  apply zMe
  rw [zRv]
  exact List.length_eq_zero_iff.1 (by rw [zFb];exact h)
 rintro rfl;rfl
theorem zEp (s:Str):str0 ++ s=s:=zMe (by rw [zCt,zRv,List.nil_append])
theorem zEq (s:Str):s ++ str0=s:=zMe (by rw [zCt,zRv,List.append_nil])
theorem zAz (a b c:Str):a ++ b ++ c=a ++ (b ++ c):=zMe (by simp only [zCt,List.append_assoc])
theorem zCy (a b:Str):dropS (a ++ b) a.size=b:=zMe (by rw [zXs,zCt,<- zFb,List.drop_left])
theorem zJx (a b:Str):(a ++ b).extract 0 a.size=a:=zMe (by rw [zGi,zCt,<- zFb];simp)
theorem zIe (s:Str) (i:Nat):byteAt s i=(((L s).getD i 0).toNat:Int):=rfl
theorem zAx (a b:Str) (i:Nat) (h:i < a.size):byteAt (a ++ b) i=byteAt a i:=by
 rw [zIe,zIe,zCt]
 simp [List.getElem?_append_left (by rw [zFb];exact h:i < (L a).length)]
theorem zDu (s:Str) (i:Nat):0<=byteAt s i/\byteAt s i < 256:=by
 unfold byteAt
 have:=(s.data.toList.getD i 0).toNat_lt
 omega
theorem zDc (n:Int):((b8 n).toNat:Int)=n % 256:=by
 unfold b8
 rw [UInt8.toNat_ofNat']
 omega
theorem numBytes_size (n:Int):(numBytes n).size=4:=rfl
theorem zQi (s:Str):0<=num4 s/\num4 s < 4294967296:=by
 unfold num4
 have:=zDu s 0;have:=zDu s 1;have:=zDu s 2;have:=zDu s 3
 omega
theorem zLa (n:Int) (t:Str) (h0:0<=n) (h1:n<=1073741824):num4 (numBytes n ++ t)=n:=by
 unfold num4
 rw [zAx _ _ 0 (by rw [numBytes_size];omega),zAx _ _ 1 (by rw [numBytes_size];omega),zAx _ _ 2 (by rw [numBytes_size];omega),zAx _ _ 3 (by rw [numBytes_size];omega)]
 have e0:byteAt (numBytes n) 0=(n / 16777216) % 256:=zDc _
 have e1:byteAt (numBytes n) 1=(n / 65536) % 256:=zDc _
 have e2:byteAt (numBytes n) 2=(n / 256) % 256:=zDc _
 have e3:byteAt (numBytes n) 3=n % 256:=zDc _
 rw [e0,e1,e2,e3]
 omega
theorem zCf (n:Int) (t:Str) (h0:0<=n) (h1:n<=1073741824):readNumber (numBytes n ++ t)=(n,t,0):=by
 unfold readNumber
 rw [if_neg (by rw [ByteArray.size_append,numBytes_size];omega),zLa n t h0 h1,if_neg (by omega)]
 have:dropS (numBytes n ++ t) 4=t:=zCy (numBytes n) t
 rw [this]
theorem textBytes_size (s:Str):(textBytes s).size=1+s.size:=by
 unfold textBytes
 rw [ByteArray.size_append]
 rfl
theorem zFa (s t:Str) (h:s.size<=255):byteAt (textBytes s ++ t) 0=s.size:=by
 rw [zAx _ _ 0 (by rw [textBytes_size];omega)]
 unfold textBytes
 have e1:byteAt ((⟨#[b8 (s.size:Int)]⟩:Str) ++ s) 0=byteAt (⟨#[b8 (s.size:Int)]⟩:Str) 0:=zAx _ _ 0 (show 0 < 1 by omega)
 rw [e1]
 have:byteAt (⟨#[b8 (s.size:Int)]⟩:Str) 0=(s.size:Int) % 256:=zDc _
 rw [this]
 omega
theorem zCh (s t:Str) (h:s.size<=255):readText (textBytes s ++ t)=(s,t,0):=by
 unfold readText
 have Ha:(textBytes s ++ t).size=1+s.size+t.size:=by rw [ByteArray.size_append,textBytes_size]
 rw [if_neg (by rw [Ha];omega),zFa s t h,if_neg (by rw [Ha];omega),show (1+(s.size:Int)).toNat=1+s.size from by omega]
 have h1:dropS (textBytes s ++ t) (1+s.size)=t:=by
  have:=zCy (textBytes s) t
  rwa [textBytes_size] at this
 have h2:(textBytes s ++ t).extract 1 (1+s.size)=s:=by
  apply zMe
  rw [zGi,zCt]
  unfold textBytes
  rw [zCt,L_mk]
  simp [<- zFb]
 rw [h1,h2]
def Pre (p s:Str):Prop:=L p <+: L s
theorem Pre.size {p s:Str} (h:Pre p s):p.size<=s.size:=by
 have:=List.IsPrefix.length_le h
 rwa [zFb,zFb] at this
theorem Pre.split {p a b:Str} (h:Pre p (a ++ b)) (hs:a.size<=p.size):∃ q,p=a ++ q/\Pre q b:=by
 unfold Pre at h
 rw [zCt] at h
 have ha:L a <+: L p:=List.prefix_of_prefix_length_le (List.prefix_append _ _) h (by rw [zFb,zFb];exact hs)
 obtain ⟨t,ht⟩:=ha
 refine ⟨⟨t.toArray⟩,zMe (by rw [zCt,L_mk];exact ht.symm),?_⟩
 unfold Pre
 rw [L_mk]
 rw [<- ht] at h
 exact (List.prefix_append_right_inj (L a)).1 h
theorem Pre.byte {p a:Str} (h:Pre p a) (i:Nat) (hi:i < p.size):byteAt p i=byteAt a i:=by
 obtain ⟨t,ht⟩:=h
 rw [zIe,zIe,<- ht]
 simp [List.getElem?_append_left (by rw [zFb];exact hi:i < (L p).length)]
theorem zBz:∀ (l:List Int) (t:Str),(∀ n ∈ l,0<=n/\n<=1073741824)->readNumbers l.length (catS (l.map numBytes) ++ t)=(l,t,0)
 | [],t,_=>by simp [readNumbers,catS,zEp]
 | n :: l,t,h=>by
   have ih:=zBz l t (fun m hm=>h m (List.mem_cons_of_mem _ hm))
   have hn:=h n List.mem_cons_self
   simp only [List.length_cons,List.map_cons,catS,readNumbers]
   rw [zAz,zCf n _ hn.1 hn.2]
   simp [ih]
theorem zDj:∀ (l:List Str) (t:Str),(∀ s ∈ l,s.size<=255)->readTexts l.length (catS (l.map textBytes) ++ t)=(l,t,0)
 | [],t,_=>by simp [readTexts,catS,zEp]
 | s :: l,t,h=>by
   have ih:=zDj l t (fun m hm=>h m (List.mem_cons_of_mem _ hm))
   have hn:=h s List.mem_cons_self
   simp only [List.length_cons,List.map_cons,catS,readTexts]
   rw [zAz,zCh s _ hn]
   simp [ih]
theorem zGj:∀ (l:List Str) (p:Str),(∀ s ∈ l,s.size<=255)->Pre p (catS (l.map textBytes))->p.size < (catS (l.map textBytes)).size ->
 (readTexts l.length p).2.2≠0
 | [],p,_,_,Ha=>by simp [catS,str0] at Ha
 | s :: l,p,h,hp,Ha=>by
   have hs:=h s List.mem_cons_self
   simp only [List.length_cons,List.map_cons,catS,readTexts] at hp Ha ⊢
   by_cases hsz:(textBytes s).size<=p.size
   ·obtain ⟨q,rfl,hq⟩:=hp.split hsz
    rw [zCh s q hs]
    have Hb:q.size < (catS (l.map textBytes)).size:=by rw [ByteArray.size_append,ByteArray.size_append] at Ha;omega
    have:=zGj l q (fun m hm=>h m (List.mem_cons_of_mem _ hm)) hq Hb
    simp [this]
   ·have hr:(readText p).2.2=5:=by
     unfold readText
     rw [textBytes_size] at hsz
     by_cases h0:p.size=0
     ·rw [if_pos h0]
     rw [if_neg h0]
     have hb:byteAt p 0=s.size:=by rw [hp.byte 0 (by omega),zFa s _ hs]
     rw [hb,if_pos (by omega)]
    simp [hr]
theorem zFc:∀ (l:List Int) (p t:Str),(∀ n ∈ l,0<=n/\n<=1073741824)->Pre p (catS (l.map numBytes) ++ t)->p.size < 4*l.length ->
 (readNumbers l.length p).2.2≠0
 | [],p,t,_,_,Ha=>by simp at Ha
 | n :: l,p,t,h,hp,Ha=>by
   have hn:=h n List.mem_cons_self
   simp only [List.length_cons,List.map_cons,catS,readNumbers] at hp Ha ⊢
   rw [zAz] at hp
   by_cases hsz:(numBytes n).size<=p.size
   ·obtain ⟨q,rfl,hq⟩:=hp.split hsz
    rw [zCf n q hn.1 hn.2]
    have Hb:q.size < 4*l.length:=by rw [ByteArray.size_append,numBytes_size] at Ha;omega
    have:=zFc l q t (fun m hm=>h m (List.mem_cons_of_mem _ hm)) hq Hb
    simp [this]
   ·have hr:(readNumber p).2.2=5:=by
     unfold readNumber
     rw [numBytes_size] at hsz
     rw [if_pos (by omega)]
    simp [hr]
theorem zNs {s:Str} (h:(decode s).2=0):s.size<=40:=by
 unfold decode at h
 split at h
 ·simp at h
 omega
theorem opFault_ok {o:Op} (h:opFault o=0):1<=o.kind/\o.kind<=4/\0<=o.at_/\o.at_ < 6/\0<=o.snap/\o.snap<=3/\o.data.size<=8 /\
 (o.kind≠3->o.snap=0)/\(o.kind=4->o.at_=0)/\(o.kind≠1->o.data=str0):=by
 unfold opFault at h
 split at h
 ·omega
 split at h
 ·omega
 split at h
 ·omega
 split at h
 ·omega
 rename_i h1 h2 h3 h4
 refine ⟨by omega,by omega,by omega,by omega,by omega,by omega,by omega,by omega,by omega,fun hk=>?_⟩
 apply (size_zero_iff _).1
 omega
theorem reqFault_ok {r:Request} (h:reqFault r=0):1<=r.client/\r.client<=4/\1<=r.num/\r.num<=1048576/\opFault r.op=0:=by
 unfold reqFault at h
 split at h
 ·omega
 exact ⟨by omega,by omega,by omega,by omega,h⟩
theorem reqBytes_size (r:Request):(reqBytes r).size=9+r.op.data.size:=by
 unfold reqBytes
 rw [ByteArray.size_append,ByteArray.size_append,numBytes_size,textBytes_size]
 show 4+4+_=_
 omega
theorem zIm {r:Request} (h:reqFault r=0):decode (reqBytes r)=(r,0):=by
 obtain ⟨h1,h2,h3,h4,h5⟩:=reqFault_ok h
 obtain ⟨o1,o2,o3,o4,o5,o6,o7,o8,o9,o10⟩:=opFault_ok h5
 have Ha:=reqBytes_size r
 have hd:dropS (reqBytes r) 4=numBytes r.num ++ (textBytes r.op.data ++ str0):=by
  have:=zCy (⟨#[b8 r.client,b8 r.op.kind,b8 r.op.at_,b8 r.op.snap]⟩:Str) (numBytes r.num ++ textBytes r.op.data)
  unfold reqBytes
  rw [zAz,zEq]
  exact this
 have hb:∀ i,i < 4->byteAt (reqBytes r) i=byteAt (⟨#[b8 r.client,b8 r.op.kind,b8 r.op.at_,b8 r.op.snap]⟩:Str) i:=fun i hi=>by
  unfold reqBytes
  rw [zAz]
  exact zAx _ _ i hi
 have b0:byteAt (reqBytes r) 0=r.client:=by
  rw [hb 0 (by omega)]
  have:byteAt (⟨#[b8 r.client,b8 r.op.kind,b8 r.op.at_,b8 r.op.snap]⟩:Str) 0=r.client % 256:=zDc _
  omega
 have b1:byteAt (reqBytes r) 1=r.op.kind:=by
  rw [hb 1 (by omega)]
  have:byteAt (⟨#[b8 r.client,b8 r.op.kind,b8 r.op.at_,b8 r.op.snap]⟩:Str) 1=r.op.kind % 256:=zDc _
  omega
 have b2:byteAt (reqBytes r) 2=r.op.at_:=by
  rw [hb 2 (by omega)]
  have:byteAt (⟨#[b8 r.client,b8 r.op.kind,b8 r.op.at_,b8 r.op.snap]⟩:Str) 2=r.op.at_ % 256:=zDc _
  omega
 have b3:byteAt (reqBytes r) 3=r.op.snap:=by
  rw [hb 3 (by omega)]
  have:byteAt (⟨#[b8 r.client,b8 r.op.kind,b8 r.op.at_,b8 r.op.snap]⟩:Str) 3=r.op.snap % 256:=zDc _
  omega
 unfold decode
 rw [if_neg (by omega),if_neg (by omega),hd,zCf _ _ (by omega) (by omega)]
 simp only [ne_eq,not_true_eq_false,if_false]
 rw [zCh _ _ (by omega),b0,b1,b2,b3]
 simp [h]
theorem zIn:∀ {l:List Str},logFault l=0->∀ e ∈ l,(decode e).2=0
 | [],_,_,he=>by simp at he
 | x :: l,h,e,he=>by
   unfold logFault at h
   split at h
   ·exact absurd h (by assumption)
   ·rcases List.mem_cons.1 he with rfl | he
    ·omega
    exact zIn h e he
theorem zIo:∀ {l:List Str},(∀ e ∈ l,(decode e).2=0)->logFault l=0
 | [],_=>rfl
 | x :: l,h=>by
   unfold logFault
   rw [if_neg (by have:=h x List.mem_cons_self;omega)]
   exact zIo fun e he=>h e (List.mem_cons_of_mem _ he)
theorem keptFault_ok {k:Kept} (h:keptFault k=0):0<=k.view/\k.view<=1048576/\0<=k.normal/\k.normal<=k.view/\(k.calm=true->k.normal=k.view) /\
 k.log.length<=60/\0<=k.commit/\k.commit<=k.log.length/\∀ e ∈ k.log,(decode e).2=0:=by
 unfold keptFault at h
 split at h
 ·omega
 split at h
 ·omega
 split at h
 ·omega
 rename_i h1 h2 h3
 refine ⟨by omega,by omega,by omega,by omega,fun hc=>?_,by omega,by omega,by omega,zIn h⟩
 apply Classical.byContradiction
 intro hn
 exact h1 (.inr (.inr (.inr (.inr ⟨hc,hn⟩))))
theorem zBk {k:Kept} (h1:0<=k.view) (h2:k.view<=1048576) (h3:0<=k.normal) (h4:k.normal<=k.view) (h5:k.calm=true->k.normal=k.view)
 (h6:k.log.length<=60) (h7:0<=k.commit) (h8:k.commit<=k.log.length) (h9:∀ e ∈ k.log,(decode e).2=0):keptFault k=0:=by
 unfold keptFault
 rw [if_neg,if_neg (by omega),if_neg (by omega)]
 ·exact zIo h9
 rintro (h | h | h | h | ⟨h,h'⟩)
 ·omega
 ·omega
 ·omega
 ·omega
 exact h' (h5 h)
theorem zNt (p:Int × Int) (b:UInt8) (_h:0<=p.1/\0<=p.2):0<=(sealStep p b).1/\(sealStep p b).1 < 65521/\0<=(sealStep p b).2/\(sealStep p b).2 < 65521:=by
 unfold sealStep
 simp only
 omega
theorem sealXY_bd (l:List UInt8):0<=(sealXY l).1/\(sealXY l).1 < 65521/\0<=(sealXY l).2/\(sealXY l).2 < 65521:=by
 unfold sealXY
 have:∀ (l:List UInt8) (p:Int × Int),(0<=p.1/\p.1 < 65521/\0<=p.2/\p.2 < 65521)->(0<=(l.foldl sealStep p).1/\(l.foldl sealStep p).1 < 65521/\0<=(l.foldl sealStep p).2/\(l.foldl sealStep p).2 < 65521):=by
  intro l
  induction l with
  | nil=>intro p h;exact h
  | cons b l ih=>intro p h;exact ih _ (zNt p b ⟨h.1,h.2.2.1⟩)
 exact this l (1,0) (by simp)
theorem sealS_size (s:Str):(sealS s).size=4:=rfl
theorem zIp (a b:List Str):catS (a ++ b)=catS a ++ catS b:=by
 induction a with
 | nil=>simp [catS,zEp]
 | cons x a ih=>simp [catS,ih,zAz]
def nums (k:Kept) (gen:Int):List Int:=[gen,k.view,k.normal,if k.calm then 1 else 0,k.commit,k.log.length]
theorem zEr (k:Kept) (gen:Int):keptBody k gen=catS ((nums k gen).map numBytes) ++ catS (k.log.map textBytes):=by
 unfold keptBody nums
 simp only [List.map_cons,List.map_nil,catS,zAz,zEp]
theorem nums_bd {k:Kept} (h:keptFault k=0) {gen:Int} (h0:0<=gen) (h1:gen<=1073741824):∀ n ∈ nums k gen,0<=n/\n<=1073741824:=by
 obtain ⟨k1,k2,k3,k4,k5,k6,k7,k8,k9⟩:=keptFault_ok h
 intro n hn
 simp only [nums,List.mem_cons,List.not_mem_nil,or_false] at hn
 rcases hn with rfl | rfl | rfl | rfl | rfl | rfl
 ·omega
 ·omega
 ·omega
 ·split <;> omega
 ·omega
 omega
theorem zDz (l:List Int):(catS (l.map numBytes)).size=4*l.length:=by
 induction l with
 | nil=>rfl
 | cons n l ih=>simp only [List.map_cons,catS,ByteArray.size_append,ih,numBytes_size,List.length_cons];omega
theorem zFd (l:List Str) (h:∀ s ∈ l,s.size<=40):(catS (l.map textBytes)).size<=41*l.length:=by
 induction l with
 | nil=>simp [catS,str0]
 | cons s l ih =>
   have:=ih (fun x hx=>h x (List.mem_cons_of_mem _ hx))
   have:=h s List.mem_cons_self
   simp only [List.map_cons,catS,ByteArray.size_append,textBytes_size,List.length_cons];omega
theorem log_small {k:Kept} (h:keptFault k=0):∀ s ∈ k.log,s.size<=40:=fun s hs=>zNs ((keptFault_ok h).2.2.2.2.2.2.2.2 s hs)
theorem zLb {k:Kept} (h:keptFault k=0) (gen:Int):24<=(keptBody k gen).size/\(keptBody k gen).size<=2484:=by
 rw [zEr,ByteArray.size_append,zDz]
 have:=zFd k.log (log_small h)
 have:=(keptFault_ok h).2.2.2.2.2.1
 simp only [nums,List.length_cons,List.length_nil]
 omega
theorem zCu {k:Kept} (h:keptFault k=0) (gen:Int):28<=(keptBytes k gen).size/\(keptBytes k gen).size<=2488:=by
 unfold keptBytes
 rw [ByteArray.size_append,sealS_size]
 have:=zLb h gen
 omega
theorem zCz {k:Kept} (h:keptFault k=0) {gen:Int} (h0:0<=gen) (h1:gen<=1073741824):stageDecode (keptBytes k gen)=(k,gen,0):=by
 have Hc:=zCu h gen
 have hk:=keptFault_ok h
 unfold stageDecode
 have hd:dropS (keptBytes k gen) 4=keptBody k gen:=zCy (sealS (keptBody k gen)) _
 have he:(keptBytes k gen).extract 0 4=sealS (keptBody k gen):=zJx (sealS (keptBody k gen)) _
 rw [if_neg (by omega),if_neg (by omega),hd,he,if_neg (by simp),zEr]
 have hn:=zBz (nums k gen) (catS (k.log.map textBytes)) (nums_bd h h0 h1)
 have Ha:readNumbers 6 (catS ((nums k gen).map numBytes) ++ catS (k.log.map textBytes))=(nums k gen,catS (k.log.map textBytes),0):=hn
 have ht:=zDj k.log str0 (fun s hs=>by have:=log_small h s hs;omega)
 rw [zEq] at ht
 rw [Ha]
 have n3:(nums k gen).getD 3 0=if k.calm then 1 else 0:=rfl
 have n5:(nums k gen).getD 5 0=(k.log.length:Int):=rfl
 have n0:(nums k gen).getD 0 0=gen:=rfl
 have n1:(nums k gen).getD 1 0=k.view:=rfl
 have n2:(nums k gen).getD 2 0=k.normal:=rfl
 have n4:(nums k gen).getD 4 0=k.commit:=rfl
 simp only [ne_eq,not_true_eq_false,if_false,n0,n1,n2,n3,n4,n5,Int.toNat_natCast,ht]
 rw [if_neg (by rw [not_or];refine ⟨by split <;> omega,by omega⟩)]
 have hc:((if k.calm=true then (1:Int) else 0) == 1)=k.calm:=by cases k.calm <;> rfl
 rw [hc]
 have Hb:(⟨k.view,k.normal,k.calm,k.log,k.commit⟩:Kept)=k:=rfl
 rw [Hb]
 simp [h]
theorem zIq {k:Kept} (h:keptFault k=0) {gen:Int} (h0:0<=gen) (h1:gen<=1073741824) {p:Str} (hp:Pre p (keptBytes k gen))
 (Hb:p.size < (keptBytes k gen).size):(stageDecode p).2.2≠0:=by
 have Hh:=zCu h gen
 have hk:=keptFault_ok h
 unfold stageDecode
 split
 ·simp
 split
 ·simp
 rename_i hs1 hs2
 split
 ·simp
 obtain ⟨q,rfl,hq⟩:=Pre.split (a:=sealS (keptBody k gen)) hp (by rw [sealS_size];omega)
 have hd:dropS (sealS (keptBody k gen) ++ q) 4=q:=zCy (sealS (keptBody k gen)) _
 rw [hd]
 have Hc:q.size < (keptBody k gen).size:=by
  unfold keptBytes at Hb
  rw [ByteArray.size_append,ByteArray.size_append] at Hb
  omega
 rw [zEr] at hq Hc
 have Hd:=nums_bd h h0 h1
 by_cases He:q.size < 24
 ·have:=zFc (nums k gen) q _ Hd hq He
  have hn:(readNumbers 6 q).2.2≠0:=this
  simp only []
  rw [if_pos hn]
  exact hn
 obtain ⟨q',rfl,Hf⟩:=hq.split (by rw [zDz];show 4*6<=q.size;omega)
 have hn:=zBz (nums k gen) q' Hd
 have Hg:readNumbers 6 (catS ((nums k gen).map numBytes) ++ q')=(nums k gen,q',0):=hn
 have Ha:q'.size < (catS (k.log.map textBytes)).size:=by rw [ByteArray.size_append,ByteArray.size_append] at Hc;omega
 have ht:=zGj k.log q' (fun s hs=>by have:=log_small h s hs;omega) Hf Ha
 have n3:(nums k gen).getD 3 0=if k.calm then 1 else 0:=rfl
 have n5:(nums k gen).getD 5 0=(k.log.length:Int):=rfl
 rw [Hg]
 simp only [ne_eq,not_true_eq_false,if_false,n3,n5,Int.toNat_natCast]
 rw [if_neg (by rw [not_or];refine ⟨by split <;> omega,by omega⟩),if_pos ht]
 exact ht
end Scu
namespace Scu
structure Gh where
 st:Int->Prop
 sl:Int->List Str
 vl:Int->List Str
 ack:Int->Int->Nat
 vw:Int->Int
def InR (j:Int):Prop:=0<=j/\j < 3
theorem zEh (v:Int):InR (leader v):=by unfold InR leader;omega
def Valid (G:Gh) (n:Int) (P:List Str):Prop :=
 P=[]\/∃ w j,w<=n/\G.st w/\InR j/\j≠leader w/\P.length<=G.ack j w/\P <+: G.vl w
def ComOk (G:Gh) (n:Int) (log:List Str) (c:Int):Prop :=
 0<=c/\c<=log.length/\Valid G n (log.take c.toNat)
structure VG (G:Gh) (j v:Int) (k:Kept):Prop where
 seen:v<=G.vw j
 lt:k.normal < v
 st:G.st k.normal
 lo:G.sl k.normal <+: k.log
 hi:k.log <+: G.vl k.normal
 led:∀ w,w < v->G.st w->leader w=j->w<=k.normal/\(k.normal=w->k.log=G.vl w)
 acked:∀ w,w < v->0 < G.ack j w->w<=k.normal/\(k.normal=w->G.ack j w<=k.log.length)
 com:ComOk G k.normal k.log k.commit
structure GoodG (G:Gh):Prop where
 nn:∀ v,G.st v->0<=v
 two:∀ v,G.st v->∀ i j,InR i->InR j->i≠j->v<=G.vw i\/v<=G.vw j
 pre:∀ v,G.st v->G.sl v <+: G.vl v
 ackLen:∀ j w,G.ack j w<=(G.vl w).length
 ackSt:∀ j w,0 < G.ack j w->G.st w/\w<=G.vw j
 lc1:∀ w v j,w < v->G.st w->G.st v->InR j->j≠leader w->∀ P,P <+: G.vl w->P.length<=G.ack j w->P <+: G.sl v
 lc2:∀ w v j,w < v->G.st w->G.st v->InR j->j≠leader w->G.vw j<=w->G.vl w <+: G.sl v
structure KeptOk (G:Gh) (i:Int) (k:Kept):Prop where
 view:G.vw i=k.view
 le:k.normal<=k.view
 calm:k.calm=true->k.normal=k.view
 wild:k.calm=false->k.normal < k.view
 st:G.st k.normal
 lo:G.sl k.normal <+: k.log
 hi:k.log <+: G.vl k.normal
 mine:leader k.normal=i->k.log=G.vl k.normal
 led:∀ w,G.st w->leader w=i->w<=k.normal
 acked:∀ w,0 < G.ack i w->w<=k.normal/\(k.normal=w->G.ack i w<=k.log.length)
 com:ComOk G k.normal k.log k.commit
structure GoodR (G:Gh) (i:Int) (r:Replica):Prop where
 inr:InR i
 me:r.me=i
 have3:r.have_.length=3
 wants3:r.wants.length=3
 gives3:r.gives.length=3
 given3:r.given.length=3
 kept:KeptOk G i r.kept
 given:∀ j,InR j->r.given.getD j.toNat false=true->r.kept.calm=false/\VG G j r.kept.view (r.gives.getD j.toNat kept0)
 self:r.given.getD i.toNat false=true->r.gives.getD i.toNat kept0=own r.kept
structure GoodM (G:Gh) (m:Message):Prop where
 lead:m.kind=1->G.st m.view/\G.sl m.view <+: m.log/\m.log <+: G.vl m.view/\ComOk G m.view m.log m.commit
 has:m.kind=2->m.n<=G.ack m.from_ m.view
 give:m.kind=4->VG G m.from_ m.view ⟨m.view,m.normal,false,m.log,m.commit⟩
structure Ext (a:Int) (G G':Gh):Prop where
 st:∀ v,G.st v->G'.st v
 sl:∀ v,G.st v->G'.sl v=G.sl v
 vl:∀ v,G.st v->G.vl v <+: G'.vl v
 ack:∀ j w,G.ack j w<=G'.ack j w
 vw:∀ j,G.vw j<=G'.vw j
 vwOther:∀ j,j≠a->G'.vw j=G.vw j
 ackOther:∀ j w,j≠a->G'.ack j w=G.ack j w
 stOther:∀ v,leader v≠a->(G'.st v↔G.st v)
 vlOther:∀ v,leader v≠a->G.st v->G'.vl v=G.vl v
 ackFrozen:∀ j w,w < G.vw j->G'.ack j w=G.ack j w
 stFrozen:∀ w,w < G.vw (leader w)->(G'.st w->G.st w)
 vlFrozen:∀ w,w < G.vw (leader w)->G.st w->G'.vl w=G.vl w
theorem Ext.refl (a:Int) (G:Gh):Ext a G G :=
 ⟨fun _ h=>h,fun _ _=>rfl,fun _ _=>List.prefix_refl _,fun _ _=>mC _,fun _=>Int.le_refl _,fun _ _=>rfl,fun _ _ _=>rfl,
  fun _ _=>Iff.rfl,fun _ _ _=>rfl,fun _ _ _=>rfl,fun _ _ h=>h,fun _ _ _=>rfl⟩
theorem Ext.trans {a:Int} {G H K:Gh} (h:Ext a G H) (k:Ext a H K):Ext a G K where
 st v hv:=k.st v (h.st v hv)
 sl v hv:=(k.sl v (h.st v hv)).trans (h.sl v hv)
 vl v hv:=(h.vl v hv).trans (k.vl v (h.st v hv))
 ack j w:=mD (h.ack j w) (k.ack j w)
 vw j:=Int.le_trans (h.vw j) (k.vw j)
 vwOther j hj:=(k.vwOther j hj).trans (h.vwOther j hj)
 ackOther j w hj:=(k.ackOther j w hj).trans (h.ackOther j w hj)
 stOther v hv:=(k.stOther v hv).trans (h.stOther v hv)
 vlOther v hv hs:=(k.vlOther v hv (h.st v hs)).trans (h.vlOther v hv hs)
 ackFrozen j w hw:=(k.ackFrozen j w (by have:=h.vw j;omega)).trans (h.ackFrozen j w hw)
 stFrozen w hw hs:=h.stFrozen w hw (k.stFrozen w (by have:=h.vw (leader w);omega) hs)
 vlFrozen w hw hs:=(k.vlFrozen w (by have:=h.vw (leader w);omega) (h.st w hs)).trans (h.vlFrozen w hw hs)
theorem Valid.ext {a:Int} {G G':Gh} {n:Int} {P:List Str} (e:Ext a G G') (h:Valid G n P):Valid G' n P:=by
 rcases h with h | ⟨w,j,h1,h2,h3,h4,h5,h6⟩
 ·exact .inl h
 exact .inr ⟨w,j,h1,e.st w h2,h3,h4,mD h5 (e.ack j w),h6.trans (e.vl w h2)⟩
theorem Valid.mono {G:Gh} {n m:Int} {P:List Str} (h:Valid G n P) (hm:n<=m):Valid G m P:=by
 rcases h with h | ⟨w,j,h1,h2⟩
 ·exact .inl h
 exact .inr ⟨w,j,by omega,h2⟩
theorem ComOk.ext {a:Int} {G G':Gh} {n:Int} {l:List Str} {c:Int} (e:Ext a G G') (h:ComOk G n l c):ComOk G' n l c:=⟨h.1,h.2.1,h.2.2.ext e⟩
theorem VG.ext {a:Int} {G G':Gh} {j v:Int} {k:Kept} (e:Ext a G G') (h:VG G j v k):VG G' j v k where
 seen:=Int.le_trans h.seen (e.vw j)
 lt:=h.lt
 st:=e.st _ h.st
 lo:=by rw [e.sl _ h.st];exact h.lo
 hi:=h.hi.trans (e.vl _ h.st)
 led w hw hs hl:=by
  have hv:w < G.vw (leader w):=by rw [hl];have:=h.seen;omega
  have Ha:=e.stFrozen w hv hs
  obtain ⟨h1,h2⟩:=h.led w hw Ha hl
  exact ⟨h1,fun hn=>by rw [e.vlFrozen w hv Ha];exact h2 hn⟩
 acked w hw ha:=by
  have hv:w < G.vw j:=by have:=h.seen;omega
  rw [e.ackFrozen j w hv] at ha ⊢
  exact h.acked w hw ha
 com:=h.com.ext e
theorem GoodM.ext {a:Int} {G G':Gh} {m:Message} (e:Ext a G G') (h:GoodM G m):GoodM G' m where
 lead hk:=by
  obtain ⟨h1,h2,h3,h4⟩:=h.lead hk
  exact ⟨e.st _ h1,by rw [e.sl _ h1];exact h2,h3.trans (e.vl _ h1),h4.ext e⟩
 has hk:=by have:=h.has hk;have:=e.ack m.from_ m.view;omega
 give hk:=(h.give hk).ext e
theorem KeptOk.ext {a i:Int} {G G':Gh} {k:Kept} (e:Ext a G G') (hi:i≠a) (h:KeptOk G i k):KeptOk G' i k where
 view:=(e.vwOther i hi).trans h.view
 le:=h.le
 calm:=h.calm
 wild:=h.wild
 st:=e.st _ h.st
 lo:=by rw [e.sl _ h.st];exact h.lo
 hi:=h.hi.trans (e.vl _ h.st)
 mine hl:=by rw [e.vlOther _ (by rw [hl];exact hi) h.st];exact h.mine hl
 led w hs hl:=h.led w ((e.stOther w (by rw [hl];exact hi)).1 hs) hl
 acked w ha:=by rw [e.ackOther i w hi] at ha ⊢;exact h.acked w ha
 com:=h.com.ext e
theorem GoodR.ext {a i:Int} {G G':Gh} {r:Replica} (e:Ext a G G') (hi:i≠a) (h:GoodR G i r):GoodR G' i r :=
 { h with kept:=h.kept.ext e hi,given:=fun j hj hg=>⟨(h.given j hj hg).1,(h.given j hj hg).2.ext e⟩ }
theorem zCi {α:Type} {a b c:List α} (h:a <+: c) (k:b <+: c) (hl:a.length<=b.length):a <+: b:=List.prefix_of_prefix_length_le h k hl
theorem zEa {α:Type} {a b:List α} (h:a <+: b) {n:Nat} (hn:n<=a.length):b.take n=a.take n:=by
 obtain ⟨t,rfl⟩:=h
 rw [List.take_append_of_le_length hn]
theorem take_len_of_prefix {α:Type} {a b:List α} (h:a <+: b):b.take a.length=a:=by
 rw [zEa h (mC _),List.take_length]
theorem Valid.agree {G:Gh} (g:GoodG G) {n m:Int} {P Q:List Str} (hp:Valid G n P) (hq:Valid G m Q):P <+: Q\/Q <+: P:=by
 rcases hp with rfl | ⟨w,j,h1,h2,h3,h4,h5,h6⟩
 ·exact .inl (List.nil_prefix)
 rcases hq with rfl | ⟨u,i,k1,k2,k3,k4,k5,k6⟩
 ·exact .inr (List.nil_prefix)
 rcases Int.lt_trichotomy w u with h | h | h
 ·have hu:P <+: G.vl u:=(g.lc1 w u j h h2 k2 h3 h4 P h6 h5).trans (g.pre u k2)
  exact List.prefix_or_prefix_of_prefix hu k6
 ·subst h
  exact List.prefix_or_prefix_of_prefix h6 k6
 have hw:Q <+: G.vl w:=(g.lc1 u w i h k2 h2 k3 k4 Q k6 k5).trans (g.pre w h2)
 exact List.prefix_or_prefix_of_prefix h6 hw
theorem Valid.in_view {G:Gh} (g:GoodG G) {n v:Int} {P:List Str} (hp:Valid G n P) (hn:n < v) (hv:G.st v):P <+: G.sl v:=by
 rcases hp with rfl | ⟨w,j,h1,h2,h3,h4,h5,h6⟩
 ·exact List.nil_prefix
 exact g.lc1 w v j (by omega) h2 hv h3 h4 P h6 h5
theorem ComOk.in_view {G:Gh} (g:GoodG G) {n v:Int} {l:List Str} {c:Int} (h:ComOk G n l c) (hn:n < v) (hv:G.st v):l.take c.toNat <+: G.sl v:=h.2.2.in_view g hn hv
theorem ComOk.length {G:Gh} {n:Int} {l:List Str} {c:Int} (h:ComOk G n l c):(l.take c.toNat).length=c.toNat:=by
 rw [List.length_take];have:=h.1;have:=h.2.1;omega
theorem ComOk.move {G:Gh} {n m:Int} {l l':List Str} {c:Int} (h:ComOk G n l c) (hp:l.take c.toNat <+: l') (hm:n<=m):ComOk G m l' c:=by
 have hl:=h.length
 have h':=hp.length_le
 refine ⟨h.1,by have:=h.1;omega,?_⟩
 have:l'.take c.toNat=l.take c.toNat:=by
  have:=take_len_of_prefix hp
  rwa [hl] at this
 rw [this]
 exact h.2.2.mono hm
theorem ComOk.max {G:Gh} {n:Int} {l:List Str} {c d:Int} (h:ComOk G n l c) (k:ComOk G n l d):ComOk G n l (max c d):=by
 rcases Int.le_total c d with h1 | h1
 ·rw [Int.max_eq_right h1];exact k
 rw [Int.max_eq_left h1];exact h
def Gh.moved (G:Gh) (i v:Int):Gh:={ G with vw:=fun j=>if j=i then v else G.vw j }
def Gh.acks (G:Gh) (i v:Int) (n:Nat):Gh:={ G with ack:=fun j w=>if j=i/\w=v then max (G.ack i v) n else G.ack j w }
def Gh.begins (G:Gh) (v:Int) (l:List Str):Gh :=
 { G with st:=fun w=>w=v\/G.st w,sl:=fun w=>if w=v then l else G.sl w,vl:=fun w=>if w=v then l else G.vl w }
def Gh.longer (G:Gh) (v:Int) (l:List Str):Gh:={ G with vl:=fun w=>if w=v then l else G.vl w }
theorem zIr {G:Gh} {i v:Int} (h:G.vw i<=v):Ext i G (G.moved i v) :=
 { Ext.refl i G with
   vw:=fun j=>by
    simp only [Gh.moved];split
    ·rename_i e;rw [e];exact h
    exact Int.le_refl _
   vwOther:=fun j hj=>by simp only [Gh.moved];rw [if_neg hj] }
theorem zKh {G:Gh} (g:GoodG G) {i v:Int} (h:G.vw i<=v):GoodG (G.moved i v):=by
 have hv:=(zIr h).vw
 refine { g with two:=?_,ackSt:=?_,lc2:=?_ }
 ·intro u hu a b ha hb Ha
  rcases g.two u hu a b ha hb Ha with h1 | h1
  ·exact .inl (Int.le_trans h1 (hv a))
  exact .inr (Int.le_trans h1 (hv b))
 ·intro j w ha
  exact ⟨(g.ackSt j w ha).1,Int.le_trans (g.ackSt j w ha).2 (hv j)⟩
 intro w u j h1 h2 h3 h4 h5 h6
 exact g.lc2 w u j h1 h2 h3 h4 h5 (Int.le_trans (hv j) h6)
theorem zLc {G:Gh} {i v:Int} {n:Nat} (hv:G.vw i<=v):Ext i G (G.acks i v n) :=
 { Ext.refl i G with
   ack:=fun j w=>by
    simp only [Gh.acks];split
    ·rename_i h;obtain ⟨rfl,rfl⟩:=h;exact Nat.le_max_left _ _
    exact mC _
   ackOther:=fun j w hj=>by simp only [Gh.acks];rw [if_neg (fun h=>hj h.1)]
   ackFrozen:=fun j w hw=>by
    simp only [Gh.acks]
    rw [if_neg]
    rintro ⟨rfl,rfl⟩
    omega }
theorem zIs {G:Gh} (g:GoodG G) {i v:Int} {n:Nat} (hv:G.vw i=v) (hs:G.st v) (hn:n<=(G.vl v).length) (hl:i≠leader v) :
 GoodG (G.acks i v n):=by
 refine { g with ackLen:=?_,ackSt:=?_,lc1:=?_ }
 ·intro j w
  simp only [Gh.acks];split
  ·rename_i h;obtain ⟨rfl,rfl⟩:=h;have:=g.ackLen j w;omega
  exact g.ackLen j w
 ·intro j w ha
  simp only [Gh.acks] at ha ⊢
  by_cases h:j=i/\w=v
  ·obtain ⟨rfl,rfl⟩:=h
   exact ⟨hs,by omega⟩
  rw [if_neg h] at ha
  exact g.ackSt j w ha
 intro w u j h1 h2 h3 h4 h5 P h6 h7
 simp only [Gh.acks] at h7 h6 h2 h3 ⊢
 by_cases h:j=i/\w=v
 ·obtain ⟨rfl,rfl⟩:=h
  exact h6.trans (g.lc2 w u j h1 h2 h3 h4 h5 (by omega))
 rw [if_neg h] at h7
 exact g.lc1 w u j h1 h2 h3 h4 h5 P h6 h7
theorem zQj {G:Gh} {i v:Int} {l:List Str} (hv:G.vw i<=v) (hl:leader v=i) (hp:G.vl v <+: l):Ext i G (G.longer v l) :=
 { Ext.refl i G with
   vl:=fun w _=>by
    simp only [Gh.longer];split
    ·subst_vars;exact hp
    exact List.prefix_refl _
   vlOther:=fun w hw _=>by
    simp only [Gh.longer];rw [if_neg];rintro rfl;exact hw hl
   vlFrozen:=fun w hw _=>by
    simp only [Gh.longer];rw [if_neg];rintro rfl;rw [hl] at hw;omega }
theorem zNu {G:Gh} (g:GoodG G) {i v:Int} {l:List Str} (hv:G.vw i=v) (hl:leader v=i) (hp:G.vl v <+: l):GoodG (G.longer v l):=by
 refine { g with pre:=?_,ackLen:=?_,lc1:=?_,lc2:=?_ }
 ·intro w hw
  simp only [Gh.longer];split
  ·subst_vars;exact (g.pre _ hw).trans hp
  exact g.pre w hw
 ·intro j w
  simp only [Gh.longer];split
  ·subst_vars;exact mD (g.ackLen j _) hp.length_le
  exact g.ackLen j w
 ·intro w u j h1 h2 h3 h4 h5 P h6 h7
  simp only [Gh.longer] at h6 h7 ⊢
  split at h6
  ·rename_i e
   subst e
   exact g.lc1 w u j h1 h2 h3 h4 h5 P (zCi h6 hp (mD h7 (g.ackLen j w))) h7
  exact g.lc1 w u j h1 h2 h3 h4 h5 P h6 h7
 intro w u j h1 h2 h3 h4 h5 h6
 simp only [Gh.longer] at h6 ⊢
 split
 ·rename_i e
  subst e
  exfalso
  have hi:InR i:=by rw [<- hl];exact zEh _
  rcases g.two u h3 j i h4 hi (by rw [<- hl];exact h5) with h | h <;> omega
 exact g.lc2 w u j h1 h2 h3 h4 h5 h6
theorem zNv {G:Gh} (g:GoodG G) {i v:Int} (hl:leader v=i) (Ka:G.vw i=v) (Hg:¬ G.st v) (Hu:0<=v)
 (K:Int->Kept) (S:Int->Prop) (hS:∀ j,S j->InR j/\VG G j v (K j)) (hi:S i) (p q:Int) (hq:S q) (Kb:q≠i) (hp:S p)
 (Hb:∀ j,S j->(K j).normal < (K p).normal\/((K j).normal=(K p).normal/\(K j).log.length<=(K p).log.length)) :
 Ext i G (G.begins v (K p).log)/\GoodG (G.begins v (K p).log):=by
 have He:=(hS p hp).2
 have hN:∀ w,G.st w->w≠v:=fun w hw e=>Hg (e ▸ hw)
 have Hl:Ext i G (G.begins v (K p).log) :=
  { Ext.refl i G with
    st:=fun w hw=>.inr hw
    sl:=fun w hw=>by simp only [Gh.begins];rw [if_neg (hN w hw)]
    vl:=fun w hw=>by simp only [Gh.begins];rw [if_neg (hN w hw)];exact List.prefix_refl _
    stOther:=fun w hw=>⟨fun h=>h.resolve_left (fun e=>hw (e ▸ hl)),.inr⟩
    vlOther:=fun w hw hs=>by simp only [Gh.begins];rw [if_neg (hN w hs)]
    stFrozen:=fun w hw h=>h.resolve_left (fun e=>by subst e;rw [hl] at hw;omega)
    vlFrozen:=fun w hw hs=>by simp only [Gh.begins];rw [if_neg (hN w hs)] }
 -- who gave a log of view N: the best is at least that
 have Hm:∀ j,S j->∀ w,w<=(K j).normal->w<=(K p).normal:=fun j hj w hw=>by rcases Hb j hj with h | h <;> omega
 have Ha:∀ j,S j->∀ w,w<=(K j).normal->(K p).normal=w->(K j).normal=w/\(K j).log.length<=(K p).log.length:=fun j hj w hw he=>by
  rcases Hb j hj with h | h
  ·omega
  exact ⟨by omega,h.2⟩
 have Hc:∀ j,G.ack j v=0:=fun j=>by
  rcases Nat.eq_zero_or_pos (G.ack j v) with h | h
  ·exact h
  exact absurd (g.ackSt j v h).1 Hg
 have Hh:∀ j,InR j->¬ S j->∀ l,InR l->l≠j->S l:=by
  intro j hj hn l Kc Kd
  have h1:j≠i:=fun e=>hn (e ▸ hi)
  have h2:j≠q:=fun e=>hn (e ▸ hq)
  have Hn:=(hS i hi).1
  have Hv:=(hS q hq).1
  unfold InR at *
  by_cases e:l=i
  ·exact e ▸ hi
  have:l=q:=by omega
  exact this ▸ hq
 have key1:∀ w j,w < v->G.st w->InR j->j≠leader w->∀ P,P <+: G.vl w->P.length<=G.ack j w->P <+: (K p).log:=by
  intro w j Hk hs hj Hi P hP Ho
  rcases Nat.eq_zero_or_pos P.length with h0 | h0
  ·rw [List.length_eq_zero_iff.1 h0];exact List.nil_prefix
  have Hp:0 < G.ack j w:=by omega
  have claim:w<=(K p).normal/\((K p).normal=w->P.length<=(K p).log.length):=by
   by_cases Hf:S j
   ·obtain ⟨a1,a2⟩:=(hS j Hf).2.acked w Hk Hp
    refine ⟨Hm j Hf w a1,fun he=>?_⟩
    obtain ⟨b1,b2⟩:=Ha j Hf w a1 he
    have:=a2 b1
    omega
   have Hd:=Hh j hj Hf (leader w) (zEh w) Hi.symm
   obtain ⟨a1,a2⟩:=(hS _ Hd).2.led w Hk hs rfl
   refine ⟨Hm _ Hd w a1,fun he=>?_⟩
   obtain ⟨b1,b2⟩:=Ha _ Hd w a1 he
   rw [a2 b1] at b2
   have:=hP.length_le
   omega
  obtain ⟨c1,c2⟩:=claim
  by_cases he:(K p).normal=w
  ·exact zCi hP (he ▸ He.hi) (c2 he)
  exact (g.lc1 w (K p).normal j (by omega) hs He.st hj Hi P hP Ho).trans He.lo
 have key2:∀ w j,w < v->G.st w->InR j->j≠leader w->G.vw j<=w->G.vl w <+: (K p).log:=by
  intro w j Hk hs hj Hi Hw
  have Hf:¬ S j:=fun h=>by have:=(hS j h).2.seen;omega
  have Hd:=Hh j hj Hf (leader w) (zEh w) Hi.symm
  obtain ⟨a1,a2⟩:=(hS _ Hd).2.led w Hk hs rfl
  have hw:=Hm _ Hd w a1
  by_cases he:(K p).normal=w
  ·obtain ⟨b1,b2⟩:=Ha _ Hd w a1 he
   rw [a2 b1] at b2
   exact zCi (List.prefix_refl _) (he ▸ He.hi) b2
  exact (g.lc2 w (K p).normal j (by omega) hs He.st hj Hi Hw).trans He.lo
 refine ⟨Hl,?_⟩
 refine { nn:=?_,two:=?_,pre:=?_,ackLen:=?_,ackSt:=?_,lc1:=?_,lc2:=?_ }
 ·intro u hu
  rcases hu with rfl | hu
  ·exact Hu
  exact g.nn u hu
 ·intro u hu a b ha hb Hx
  rcases hu with rfl | hu
  ·have Hr:=(hS i hi).2.seen
   have Hs:=(hS q hq).2.seen
   have Hn:=(hS i hi).1
   have Hv:=(hS q hq).1
   show u<=G.vw a\/u<=G.vw b
   by_cases e1:a=i
   ·subst e1;exact .inl Hr
   by_cases e2:a=q
   ·subst e2;exact .inl Hs
   by_cases e3:b=i
   ·subst e3;exact .inr Hr
   have:b=q:=by unfold InR at *;omega
   subst this;exact .inr Hs
  exact g.two u hu a b ha hb Hx
 ·intro w hw
  simp only [Gh.begins]
  split
  ·exact List.prefix_refl _
  rename_i Hy
  exact g.pre w (hw.resolve_left Hy)
 ·intro j w
  simp only [Gh.begins]
  split
  ·subst_vars;rw [Hc];omega
  exact g.ackLen j w
 ·intro j w h
  exact ⟨.inr (g.ackSt j w h).1,(g.ackSt j w h).2⟩
 ·intro w u j h1 h2 h3 h4 h5 P h6 h7
  simp only [Gh.begins] at h6 ⊢
  have Hq:P.length<=G.ack j w:=h7
  by_cases ew:w=v
  ·subst ew
   rw [Hc] at Hq
   have:P=[]:=List.length_eq_zero_iff.1 (by omega)
   subst this
   exact List.nil_prefix
  rw [if_neg ew] at h6
  have Hj:=h2.resolve_left ew
  by_cases eu:u=v
  ·rw [if_pos eu]
   exact key1 w j (by omega) Hj h4 h5 P h6 Hq
  rw [if_neg eu]
  exact g.lc1 w u j h1 Hj (h3.resolve_left eu) h4 h5 P h6 Hq
 intro w u j h1 h2 h3 h4 h5 h6
 simp only [Gh.begins] at ⊢
 have Ht:G.vw j<=w:=h6
 by_cases ew:w=v
 ·subst ew
  exfalso
  have Hz:G.st u:=h3.resolve_left (by omega)
  have Hn:=(hS i hi).1
  rcases g.two u Hz j i h4 Hn (by rw [<- hl];exact h5) with h | h <;> omega
 rw [if_neg ew]
 have Hj:=h2.resolve_left ew
 by_cases eu:u=v
 ·rw [if_pos eu]
  exact key2 w j (by omega) Hj h4 h5 Ht
 rw [if_neg eu]
 exact g.lc2 w u j h1 Hj (h3.resolve_left eu) h4 h5 Ht
end Scu

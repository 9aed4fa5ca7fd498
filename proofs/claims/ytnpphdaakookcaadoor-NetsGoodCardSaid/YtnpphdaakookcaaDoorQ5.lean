/- Part 5: words and walks under the laws of the whole. -/
import Derived.Lib.Hide
import Derived.Below
import Derived.Lib.ItoaNum
import Derived.Test.YtnpphdaakookcaaDoorChecked
import Derived.WalkKit
import Derived.WalkLawsBesides
import Derived.WalkSpells
import Derived.Deep.QuietTactic
import Derived.BigQuiet
import Derived.Lib.Hide
import Derived.Handy
import Derived.WalkSmall
import Derived.Deep.RegionWith
import Derived.Deep.RegionHeld3
import Derived.StillTailTactics
import Derived.Orders
import Derived.OrdersHeld
import Derived.RegionTactic
import Derived.Deep.Slices
import Derived.Deep.Fields
import Derived.Deep.Draws
import Derived.ProofKit
import Derived.OpenShut
import Derived.ShutString
import Derived.Test.YtnpphdaakookcaaDoorQ4
set_option linter.unusedVariables false
set_option linter.unusedSimpArgs false
set_option maxHeartbeats 4000000
set_option maxRecDepth 100000
namespace Scu
theorem zDn {x:Net} {k:Nat} (hk:k < x.replicas.length):repAt x (k:Int)=x.replicas[k]:=by
 unfold repAt
 rw [Int.toNat_natCast,mI,mH hk]
 rfl
theorem zQs {x:Net} {k:Nat} (hk:k < x.slots.length):slotAt x (k:Int)=x.slots[k]:=by
 unfold slotAt
 rw [Int.toNat_natCast,mI,mH hk]
 rfl
section
variable {l:List Act} {o:Outcome}
theorem zQt (ho:outOf (steps (netNew 3) l)=o):∀ r ∈ o.replicas,repFault r=0:=by
 subst ho
 intro r hr
 exact (came_run l).fault hr
theorem zSd (ho:outOf (steps (netNew 3) l)=o):∀ r ∈ o.replicas,keptFault r.kept=0:=fun r hr=>(repFault_ok (zQt ho r hr)).2.2.2.2.2.2.2
theorem came_view (ho:outOf (steps (netNew 3) l)=o):∀ r ∈ o.replicas,0<=r.kept.view:=fun r hr=>(keptFault_ok (zSd ho r hr)).1
theorem came_len (ho:outOf (steps (netNew 3) l)=o):o.replicas.length=3/\o.slots.length=3:=by
 subst ho
 exact (came_run l).rlen
theorem came_lead_one (ho:outOf (steps (netNew 3) l)=o) (i j:Nat) (hi:i < o.replicas.length) (hj:j < o.replicas.length) (Ha:i≠j) (h1:leads o.replicas[i]=true) (h2:leads o.replicas[j]=true):o.replicas[i].kept.view≠o.replicas[j].kept.view:=by
 have hl:=(came_len ho).1
 subst ho
 intro hv
 have e1:=zDn (x:=(steps (netNew 3) l).1) (k:=i) hi
 have e2:=zDn (x:=(steps (netNew 3) l).1) (k:=j) hj
 have:=(came_run l).lead_one (i:=(i:Int)) (j:=(j:Int)) ⟨by omega,by omega⟩ ⟨by omega,by omega⟩ (by rw [e1];exact h1) (by rw [e2];exact h2) (by rw [e1,e2];exact hv)
 omega
theorem came_lead_all (ho:outOf (steps (netNew 3) l)=o) (i:Nat) (hi:i < o.replicas.length) (h1:leads o.replicas[i]=true) (hn:∀ j (hj:j < o.replicas.length),o.replicas[j].kept.normal<=o.replicas[i].kept.view):committed o.replicas <+: o.replicas[i].kept.log:=by
 have hl:=(came_len ho).1
 subst ho
 have e1:=zDn (x:=(steps (netNew 3) l).1) (k:=i) hi
 have:=(came_run l).lead_all (i:=(i:Int)) ⟨by omega,by omega⟩ (by rw [e1];exact h1) (fun j hj=>by
  have Ha:j.toNat < (steps (netNew 3) l).1.replicas.length:=by have:=hj.2;have:=hj.1;have h3:(steps (netNew 3) l).1.replicas.length=3:=hl;omega
  have e2:=zDn (x:=(steps (netNew 3) l).1) (k:=j.toNat) Ha
  rw [zHh hj] at e2
  rw [e1,e2]
  exact hn j.toNat Ha)
 rw [e1] at this
 exact this
theorem came_slot (ho:outOf (steps (netNew 3) l)=o) (i:Nat) (hi:i < o.replicas.length) (hs:i < o.slots.length):∃ g at_,load o.slots[i]=(o.replicas[i].kept,g,at_,0):=by
 have hl:=(came_len ho).1
 subst ho
 have e1:=zDn (x:=(steps (netNew 3) l).1) (k:=i) hi
 have e2:=zQs (x:=(steps (netNew 3) l).1) (k:=i) hs
 obtain ⟨g,at_,h⟩:=(came_run l).slot (i:Int) ⟨by omega,by omega⟩
 rw [e1,e2] at h
 exact ⟨g,at_,h⟩
theorem came_falls {p:Outcome} (ho:outOf (steps (netNew 3) l)=o) (hp:outOf (steps (netNew 3) (l ++ falls))=p):committed o.replicas=committed p.replicas/\∀ i (hi:i < o.replicas.length) (Ha:i < p.replicas.length),p.replicas[i].kept=o.replicas[i].kept:=by
 have hl:=(came_len ho).1
 have e:steps (netNew 3) (l ++ falls)=_:=zGl l falls (netNew 3)
 have hc:=(came_run l).falls_com
 have hf:=(came_run l).falls.2.2
 subst ho hp
 constructor
 ·show committed (steps (netNew 3) l).1.replicas=committed (steps (netNew 3) (l ++ falls)).1.replicas
  rw [e]
  exact hc.symm
 intro i hi Ha
 have Hb:InR (i:Int):=⟨by omega,by omega⟩
 have e1:=zDn (x:=(steps (netNew 3) l).1) (k:=i) hi
 have e2:=zDn (x:=(steps (netNew 3) (l ++ falls)).1) (k:=i) Ha
 have:=hf i Hb
 rw [e1] at this
 show (steps (netNew 3) (l ++ falls)).1.replicas[i].kept=(steps (netNew 3) l).1.replicas[i].kept
 rw [<- this,<- e2,e]
theorem came_told (ho:outOf (steps (netNew 3) l)=o) {t:Told} (ht:t ∈ o.told):placeOf (committed o.replicas) t.request < (committed o.replicas).length/\(1<=t.request.client/\t.request.client<=4) /\
 ∃ st,play ((committed o.replicas).take (placeOf (committed o.replicas) t.request+1))=(st,0)/\st.lasts.length=4/\st.lasts.getD (t.request.client - 1).toNat last0=⟨t.request.num,t.reply⟩:=by
 subst ho
 have h1:=(came_run l).told ht
 have h2:AllOk ((committed (steps (netNew 3) l).1.replicas).take (placeOf (committed (steps (netNew 3) l).1.replicas) t.request+1)):=fun e he=>(came_run l).entries e (List.mem_of_mem_take he)
 refine ⟨h1.place,h1.client,_,h1.is.1,?_,h1.is.2⟩
 exact (lastsOk_iff.1 (stateFault_iff.1 (zHi h2).2).1).1
end
end Scu
namespace Scu
structure Raw where
 kind:Int
 a:Int
 b:Int
 c:Int
deriving DecidableEq
def picked (n many:Int):Int:=(if n < 0 then -(n+1) else n) % many
theorem picked_lt {n many:Int} (h:0 < many):0<=picked n many/\picked n many < many:=⟨Int.emod_nonneg _ (by omega),Int.emod_lt_of_pos _ h⟩
def numText (n:Int):Str:=⟨(Go.Lib.itoa n).toArray⟩
def wText (n:Int):Str:=⟨#[119]⟩ ++ numText n
def rawOp (r:Raw):Op :=
 if picked r.kind 12 < 5 then ⟨1,picked r.a 6,0,wText (picked r.b 1000)⟩
 else if picked r.kind 12=5 then ⟨2,picked r.a 6,0,str0⟩
 else if picked r.kind 12=6 then ⟨4,0,0,str0⟩
 else ⟨3,picked r.a 6,max 0 (picked r.b 6 - 2),str0⟩
theorem zJb {i:Nat} (h:i < 1000):(Go.Lib.decDigits i).length<=3:=by
 rcases Nat.lt_or_ge i 10 with h1 | h1
 ·rw [Go.Lib.decDigits_one h1];simp
 rcases Nat.lt_or_ge i 100 with h2 | h2
 ·rw [Go.Lib.decDigits_two (by omega) h2];simp
 rw [Go.Lib.decDigits,dif_neg (by omega),List.length_append,Go.Lib.decDigits_two (by omega) (by omega)];simp
theorem wText_size {n:Int} (h0:0<=n) (h:n < 1000):(wText n).size<=4:=by
 unfold wText numText
 have h1:(Go.Lib.itoa n).length<=3:=by
  unfold Go.Lib.itoa
  rw [if_neg (by omega)]
  exact zJb (by omega)
 rw [ByteArray.size_append]
 simp only [ByteArray.size]
 simp
 omega
def reqStep (st:List Request × List Int) (r:Raw):List Request × List Int :=
 let c:=1+picked r.c 4
 let nx:=if st.2.getD c.toNat 0=0\/0 < picked r.a 4 then st.2.set c.toNat (st.2.getD c.toNat 0+1) else st.2
 (st.1 ++ [⟨c,nx.getD c.toNat 0,rawOp r⟩],nx)
def reqsOf (l:List Raw):List Request × List Int:=l.foldl reqStep ([],[0,0,0,0,0])
def requests (l:List Raw) (most:Nat):List Request:=(reqsOf (l.take most)).1
structure ReqsOk (l:List Raw) (st:List Request × List Int):Prop where
 len:st.1.length=l.length
 five:st.2.length=5
 nums:∀ x ∈ st.2,0<=x/\x<=l.length
 each:∀ q ∈ st.1,1<=q.client/\q.client<=4/\1<=q.num/\q.num<=l.length/\opFault q.op=0
def rawAct (clients:Int) (r:Raw):Act :=
 let k:=picked r.kind 60
 let c:=picked r.a clients
 let R:=picked r.b 3
 if k < 6 then ⟨1,c,0,0,0,rawOp ⟨r.kind.tdiv 60,r.b,r.c,0⟩⟩
 else if k < 14 then ⟨2,c,R,0,0,op0⟩
 else if k < 20 then ⟨3,c,R,0,0,op0⟩
 else if k < 24 then ⟨4,0,R,0,0,op0⟩
 else if k < 26 then ⟨5,0,R,0,0,op0⟩
 else if k=26 then ⟨7,0,0,picked r.c 5,0,op0⟩
 else if k=27 then ⟨8,0,0,picked r.c 5,0,op0⟩
 else if k=28 then ⟨9,0,R,0,0,op0⟩
 else if k=29 then ⟨10,0,0,picked r.c 5,picked r.a 60,op0⟩
 else ⟨6,0,0,picked r.c 5*picked r.a 2,0,op0⟩
def rawActs (l:List Raw) (most:Nat) (clients:Int):List Act:=(l.take most).map (rawAct clients)
end Scu
namespace Scu
def entries (l:List Request):List Str:=l.map reqBytes
end Scu
namespace Go.Proofs.YtnpphdaakookcaaDoor
theorem mA {P : Prop} (h : P) : RowKit.Hid P := h
theorem mG (B : Nat) (w : World) : RowKit.Below B w w := RowKit.Below.refl B w
open Go.RowKit
theorem zHp {n:Int} (h0:0<=n) (h1:n < 256):UInt8.ofNat n.toNat=Scu.b8 n:=by
 unfold Scu.b8
 rw [Int.emod_eq_of_lt h0 h1]
theorem zXi (n:Int):UInt8.ofNat (n % 256).toNat=Scu.b8 n:=rfl
theorem zMm (w:World) (xs:List Int) :
 (convert 141 9 (.slice (some ⟨w.heap.size,0,none⟩) xs.length xs.length)).run Tryd.prog (w.alloc (.cells (xs.map (Value.int .u8)).toArray 5)) =
  .ok (.string (strOfNums xs)) (w.alloc (.cells (xs.map (Value.int .u8)).toArray 5)):=by
 refine run_convert_bytes_arg _ 141 5 Tryd.underlying141 Tryd.underlying5 w.heap.size 0 xs.length xs.length xs rfl (fun i hi=>?_) 9 Tryd.underlying9
 have:=World.cell?_alloc_mark w (xs.map (Value.int .u8)).toArray 5 (0,0) (0+i)
 rw [this]
 simp [mH hi,List.getD]
theorem zGm (w:World) (g:Nat) (a b c d:Int) (hg:g=w.heap.size) :
 (convert 141 9 (.slice (some ⟨g,0,none⟩) 4 4)).run Tryd.prog (w.alloc (.cells #[.int .u8 a,.int .u8 b,.int .u8 c,.int .u8 d] 5)) =
  .ok (.string (strOfNums [a,b,c,d])) (w.alloc (.cells #[.int .u8 a,.int .u8 b,.int .u8 c,.int .u8 d] 5)):=by subst hg;exact zMm w [a,b,c,d]
theorem zIg (w:World) (g:Nat) (a:Int) (hg:g=w.heap.size) :
 (convert 141 9 (.slice (some ⟨g,0,none⟩) 1 1)).run Tryd.prog (w.alloc (.cells #[.int .u8 a] 5)) =
  .ok (.string (strOfNums [a])) (w.alloc (.cells #[.int .u8 a] 5)):=by subst hg;exact zMm w [a]
theorem zGn {a b c d:Value} (h:a=c) (k:b=d):Ending.returned (.tuple #[a,b])=Ending.returned (.tuple #[c,d]):=by rw [h,k]
theorem zAb {a b:Value} (h:a=b):Ending.returned a=Ending.returned b:=by rw [h]
theorem zKn {a b:ByteArray} (h:a=b):Value.string a=Value.string b:=by rw [h]
theorem zAd {k:IntKind} {a b:Int} (h:a=b):Value.int k a=Value.int k b:=by rw [h]
theorem zBt {a b:Bool} (h:a=b):Value.bool a=Value.bool b:=by rw [h]
theorem zFq (s:ByteArray) (i:Nat) (h:i < s.size):((s[i]'h).toNat:Int)=Scu.byteAt s i:=by
 unfold Scu.byteAt
 have h':i < s.data.toList.length:=by simpa using h
 rw [mI,mH h']
 rfl
theorem zBp (s:ByteArray) (i:Nat):0<=Scu.byteAt s i/\Scu.byteAt s i < 256:=by
 unfold Scu.byteAt
 have:=(s.data.toList.getD i 0).toNat_lt
 omega
theorem zMn (a:Nat) (ha:a < 9223372036854775808):(BitVec.ofInt 64 (a:Int)).toNat=a:=by
 rw [BitVec.ofInt_natCast,BitVec.toNat_ofNat];exact Nat.mod_eq_of_lt (by omega)
theorem zQu (a b:Nat) (ha:a < 9223372036854775808) (hb:b < 9223372036854775808):bits .or .i64 (a:Int) (b:Int)=((a ||| b:Nat):Int):=by
 have hx:a ||| b < 2 ^ 63:=Nat.or_lt_two_pow (by omega) (by omega)
 show IntKind.i64.wrap ((BitVec.ofInt 64 (a:Int) ||| BitVec.ofInt 64 (b:Int)).toNat:Int)=_
 rw [BitVec.toNat_or,zMn a ha,zMn b hb,IntKind.wrap_i64]
 omega
theorem zHk (k:Nat) (hk:k<=32) (a y:Int) (ha:0<=a) (hx:a*(2 ^ k:Nat) < 9223372036854775808) (hy:0<=y) (Ha:y < (2 ^ k:Nat)) :
 bits .or .i64 (a*(2 ^ k:Nat)) y=a*(2 ^ k:Nat)+y:=by
 obtain ⟨n,rfl⟩:=Int.eq_ofNat_of_zero_le ha
 obtain ⟨m,rfl⟩:=Int.eq_ofNat_of_zero_le hy
 have hm:m < 2 ^ k:=by omega
 have e:((n:Int)*(2 ^ k:Nat))=((n*2 ^ k:Nat):Int):=by push_cast;rfl
 rw [e] at hx ⊢
 have h1:n*2 ^ k < 9223372036854775808:=by omega
 have hs:=Nat.shiftLeft_add_eq_or_of_lt hm n
 rw [Nat.shiftLeft_eq] at hs
 have hp:2 ^ k<=2 ^ 32:=Nat.pow_le_pow_right (by omega) hk
 rw [zQu _ _ h1 (by omega),<- hs]
 push_cast
 rfl
theorem zYd (a y:Int) (ha:0<=a) (hx:a < 16777216) (hy:0<=y) (Ha:y < 256):bits .or .i64 (a*256) y=a*256+y :=
 zHk 8 (by omega) a y ha (by omega) hy (by omega)
theorem zUd (a y:Int) (ha:0<=a) (hx:a < 16777216) (hy:0<=y) (Ha:y < 65536):bits .or .i64 (a*65536) y=a*65536+y :=
 zHk 16 (by omega) a y ha (by omega) hy (by omega)
theorem zUe (a y:Int) (ha:0<=a) (hx:a < 16777216) (hy:0<=y) (Ha:y < 16777216):bits .or .i64 (a*16777216) y=a*16777216+y :=
 zHk 24 (by omega) a y ha (by omega) hy (by omega)
theorem zSe (a b:Int) (ha:0<=a) (Ha:a < 256) (hb:0<=b) (Hb:b < 256):bits .or .i64 (a*16777216) (b*65536)=a*16777216+b*65536 :=
 zUe a _ ha (by omega) (by omega) (by omega)
theorem zSf (a b c:Int) (ha:0<=a) (Ha:a < 256) (hb:0<=b) (Hb:b < 256) (hc:0<=c) (Hc:c < 256) :
 bits .or .i64 (a*16777216+b*65536) (c*256)=a*16777216+b*65536+c*256:=by
 have:=zUd (a*256+b) (c*256) (by omega) (by omega) (by omega) (by omega)
 rw [show (a*256+b)*65536=a*16777216+b*65536 by omega] at this
 exact this
theorem zSg (a b c d:Int) (ha:0<=a) (Ha:a < 256) (hb:0<=b) (Hb:b < 256) (hc:0<=c) (Hc:c < 256) (hd:0<=d) (Hd:d < 256) :
 bits .or .i64 (a*16777216+b*65536+c*256) d=a*16777216+b*65536+c*256+d:=by
 have:=zYd (a*65536+b*256+c) d (by omega) (by omega) (by omega) (by omega)
 rw [show (a*65536+b*256+c)*256=a*16777216+b*65536+c*256 by omega] at this
 exact this
attribute [local go_sem] zGm zIg zFq
theorem zOf {n:Int} (h0:0<=n) (h1:n<=1073741824):strOfNums [n / 16777216,n / 65536 % 256,n / 256 % 256,n % 256]=Scu.numBytes n:=by
 unfold strOfNums Scu.numBytes
 simp only [List.map_cons,List.map_nil,zXi]
 rw [zHp (n:=n / 16777216) (by omega) (by omega)]
theorem zUf (n:Int) (w:World) :
 Calls Tryd.prog 59 #[.int .i64 n] w fun e w'=>e=.returned (.tuple #[.string (Scu.number n).1,.int .i64 (Scu.number n).2])/\Below w.heap.size w w':=by
 by_cases h:n < 0\/1073741824 < n
 ·have hs:Scu.number n=(Scu.str0,2):=if_pos h
  rw [hs]
  go_enter Tryd.func59,Tryd.ntmps59
  go_wp2
  all_goals (go_ret2;exact ⟨rfl,mG _ _⟩)
 have hs:Scu.number n=(Scu.numBytes n,0):=if_neg h
 rw [hs]
 have h0:0<=n:=by omega
 have h1:n<=1073741824:=by omega
 clear h
 go_enter Tryd.func59,Tryd.ntmps59
 go_wp2
 go_ret2
 exact ⟨zGn (zKn (zOf h0 h1)) rfl,(mG _ _).alloc (mC _) _⟩
theorem zMo {s:ByteArray} (h:s.size<=255):strOfNums [(s.size:Int)] ++ s=Scu.textBytes s:=by
 unfold strOfNums Scu.textBytes
 simp only [List.map_cons,List.map_nil]
 rw [zHp (n:=(s.size:Int)) (by omega) (by omega)]
theorem zJc (n:Int):(strOfNums [n]).size=1:=rfl
theorem yAl (s:ByteArray) (w:World) :
 Calls Tryd.prog 60 #[.string s] w fun e w'=>e=.returned (.tuple #[.string (Scu.text s).1,.int .i64 (Scu.text s).2])/\Below w.heap.size w w':=by
 by_cases h:255 < s.size
 ·have hs:Scu.text s=(Scu.str0,1):=if_pos h
  rw [hs]
  have h':(255:Int) < s.size:=by omega
  go_enter Tryd.func60,Tryd.ntmps60
  go_wp2
  all_goals (go_ret2;exact ⟨rfl,mG _ _⟩)
 have hs:Scu.text s=(Scu.textBytes s,0):=if_neg h
 rw [hs]
 have h1:(s.size:Int)<=255:=by omega
 have h2:(strOfNums [(s.size:Int)]).size+s.size<=9223372036854775807:=by rw [zJc];omega
 have h3:=fun w=>run_string_add_sum (P:=Tryd.prog) (w:=w) (strOfNums [(s.size:Int)]) s h2
 clear h2
 go_enter Tryd.func60,Tryd.ntmps60
 go_wp2
 go_ret2
 exact ⟨zGn (zKn (zMo (by omega))) rfl,(mG _ _).alloc (mC _) _⟩
theorem zHq (s:ByteArray) (w:World) :
 Calls Tryd.prog 50 #[.string s] w fun e w'=>e=.returned (.tuple #[.int .i64 (Scu.readNumber s).1,.string (Scu.readNumber s).2.1,.int .i64 (Scu.readNumber s).2.2])/\Below w.heap.size w w':=by
 by_cases h:s.size < 4
 ·have hs:Scu.readNumber s=(0,Scu.str0,5):=if_pos h
  rw [hs]
  have h':(s.size:Int) < 4:=by omega
  go_enter Tryd.func50,Tryd.ntmps50
  go_wp2
  all_goals (go_ret3;exact ⟨rfl,mG _ _⟩)
 have h':(4:Int)<=s.size:=by omega
 have g0:(0:Int) < s.size:=by omega
 have g1:(1:Int) < s.size:=by omega
 have g2:(2:Int) < s.size:=by omega
 have g3:(3:Int) < s.size:=by omega
 obtain ⟨a0,a1⟩:=zBp s 0
 obtain ⟨b0,b1⟩:=zBp s 1
 obtain ⟨c0,c1⟩:=zBp s 2
 obtain ⟨d0,d1⟩:=zBp s 3
 have o3:=zSe _ _ a0 a1 b0 b1
 have o2:=zSf _ _ _ a0 a1 b0 b1 c0 c1
 have o1:=zSg _ _ _ _ a0 a1 b0 b1 c0 c1 d0 d1
 by_cases hb:1073741824 < Scu.num4 s
 ·have hs:Scu.readNumber s=(0,Scu.str0,4):=by unfold Scu.readNumber;rw [if_neg h,if_pos hb]
  rw [hs]
  unfold Scu.num4 at hb
  clear h
  go_enter Tryd.func50,Tryd.ntmps50
  go_wp2
  go_quiet (fail)
  go_wp2
  go_ret3
  exact ⟨rfl,below_drewN (mG _ _) _⟩
 have hs:Scu.readNumber s=(Scu.num4 s,Scu.dropS s 4,0):=by unfold Scu.readNumber;rw [if_neg h,if_neg hb]
 rw [hs]
 unfold Scu.num4 at hb
 have Ha:Scu.byteAt s 0*16777216+Scu.byteAt s 1*65536+Scu.byteAt s 2*256+Scu.byteAt s 3<=1073741824:=by omega
 clear h hb
 go_enter Tryd.func50,Tryd.ntmps50
 go_wp2
 go_quiet (fail)
 go_wp2
 go_quiet (fail)
 go_wp2
 go_ret3
 exact ⟨rfl,below_drewN (below_drewN (mG _ _) _) _⟩
theorem zBy (s:ByteArray):s.toList=[]↔s.size=0:=by
 rw [ByteArray.toList_eq,<- List.length_eq_zero_iff,Array.length_toList]
 rfl
theorem zKo (s:ByteArray) (w:World) (hm:s.size<=maxLen) :
 Calls Tryd.prog 51 #[.string s] w fun e w'=>e=.returned (.tuple #[.string (Scu.readText s).1,.string (Scu.readText s).2.1,.int .i64 (Scu.readText s).2.2])/\Below w.heap.size w w':=by
 unfold maxLen at hm
 have Ha:(s.size:Int)<=9223372036854775807:=by omega
 clear hm
 by_cases h:s.size=0
 ·have hs:Scu.readText s=(Scu.str0,Scu.str0,5):=if_pos h
  rw [hs]
  have h':s.toList=[]:=(zBy s).2 h
  clear h hs
  go_enter Tryd.func51,Tryd.ntmps51
  go_wp2
  all_goals (go_ret3;exact ⟨rfl,mG _ _⟩)
 have h':¬ s.toList=[]:=fun e=>h ((zBy s).1 e)
 have Hb:s.toList.isEmpty=false:=by simpa using h'
 have g0:(0:Int) < s.size:=by omega
 obtain ⟨a0,a1⟩:=zBp s 0
 by_cases hb:(s.size:Int) - 1 < Scu.byteAt s 0
 ·have hs:Scu.readText s=(Scu.str0,Scu.str0,5):=by unfold Scu.readText;rw [if_neg h,if_pos hb]
  rw [hs]
  clear h hs
  go_enter Tryd.func51,Tryd.ntmps51
  go_wp2
  all_goals (go_ret3;exact ⟨rfl,mG _ _⟩)
 have hs:Scu.readText s=(s.extract 1 (1+Scu.byteAt s 0).toNat,Scu.dropS s (1+Scu.byteAt s 0).toNat,0):=by unfold Scu.readText;rw [if_neg h,if_neg hb]
 rw [hs]
 have Hc:=Int.not_lt.1 hb
 clear h hb hs
 go_enter Tryd.func51,Tryd.ntmps51
 go_wp2
 go_quiet (fail)
 go_wp2
 go_ret3
 exact ⟨rfl,below_drewN (mG _ _) _⟩
theorem zJd (s:ByteArray) (k:Nat) (h:k < s.size):Scu.sealXY (s.data.toList.take (k+1)) =
 (((Scu.sealXY (s.data.toList.take k)).1+Scu.byteAt s k) % 65521,((Scu.sealXY (s.data.toList.take k)).2+((Scu.sealXY (s.data.toList.take k)).1+Scu.byteAt s k) % 65521) % 65521):=by
 have hk:k < s.data.toList.length:=by simpa using h
 rw [List.take_succ_eq_append_getElem hk]
 unfold Scu.sealXY
 rw [List.foldl_append]
 have hb:Scu.byteAt s k=(s.data.toList[k].toNat:Int):=by
  unfold Scu.byteAt
  rw [mI,mH hk]
  rfl
 rw [hb]
 rfl
theorem zQv (s:ByteArray):strOfNums [(Scu.sealXY s.data.toList).2 / 256,(Scu.sealXY s.data.toList).2 % 256,(Scu.sealXY s.data.toList).1 / 256,(Scu.sealXY s.data.toList).1 % 256]=Scu.sealS s:=by
 obtain ⟨x0,x1,y0,y1⟩:=Scu.sealXY_bd s.data.toList
 unfold strOfNums Scu.sealS
 simp only [List.map_cons,List.map_nil,zXi]
 rw [zHp (n:=(Scu.sealXY s.data.toList).2 / 256) (by omega) (by omega),zHp (n:=(Scu.sealXY s.data.toList).1 / 256) (by omega) (by omega)]
theorem zPg (s:ByteArray) (w:World) (hm:s.size<=maxLen) :
 Calls Tryd.prog 49 #[.string s] w fun e w'=>e=.returned (.string (Scu.sealS s))/\Below w.heap.size w w':=by
 unfold maxLen at hm
 have Hc:(s.size:Int)<=9223372036854775807:=by omega
 clear hm
 go_enter Tryd.func49,Tryd.ntmps49
 go_wp2
 go_loop [3,4,8] (fun x y i=>∃ k:Nat,k<=s.size/\i=.int .i64 k/\x=.int .i64 (Scu.sealXY (s.data.toList.take k)).1/\y=.int .i64 (Scu.sealXY (s.data.toList.take k)).2) (fun _ _ i=>s.size - (intOf i).toNat)
 case atStart=>exact ⟨0,mE _,rfl,rfl,rfl⟩
 case round =>
  obtain ⟨k,hk,rfl,rfl,rfl⟩:=hrel
  obtain ⟨x0,x1,y0,y1⟩:=Scu.sealXY_bd (s.data.toList.take k)
  obtain ⟨c0,c1⟩:=zBp s k
  by_cases Ha:k < s.size
  ·have Hb:(k:Int) < s.size:=by omega
   go_wp2
   refine ⟨⟨k+1,Ha,rfl,?_,?_⟩,?_⟩
   ·rw [zJd s k Ha]
   ·rw [zJd s k Ha]
   simp only [intOf];omega
  obtain rfl:k=s.size:=by omega
  have ht:s.data.toList.take s.size=s.data.toList:=List.take_of_length_le (by simp)
  rw [ht] at x0 x1 y0 y1 ⊢
  go_wp2
  go_ret
  exact ⟨zAb (zKn (zQv s)),(mG _ _).alloc (mC _) _⟩
attribute [local go_sem] zGm zIg zFq
theorem zFh (o:Scu.Op) (w:World) :
 Calls Tryd.prog 61 #[.agg #[.int .i64 o.kind,.int .i64 o.at_,.int .i64 o.snap,.string o.data]] w fun e w' =>
  e=.returned (.int .i64 (Scu.opFault o))/\Below w.heap.size w w':=by
 obtain ⟨k,a,n,d⟩:=o
 have hd:=zBy d
 go_enter Tryd.func61,Tryd.ntmps61
 go_wp2
 all_goals (go_ret;refine ⟨zAb (zAd ?_),(mG _ _).alloc (mC _) _⟩)
 all_goals (try simp only [bne_iff_ne,ne_eq,bne_eq_false_iff_eq,Bool.not_eq_true',Bool.not_eq_false',List.isEmpty_iff,List.isEmpty_eq_false_iff,hd] at *)
 all_goals (unfold Scu.opFault;simp only [];repeat' split)
 all_goals first | rfl | omega
theorem zEd (r:Scu.Request) (w:World) :
 Calls Tryd.prog 52 #[.agg #[.int .i64 r.client,.int .i64 r.num,.int .i64 r.op.kind,.int .i64 r.op.at_,.int .i64 r.op.snap,.string r.op.data]] w fun e w' =>
  e=.returned (.int .i64 (Scu.reqFault r))/\Below w.heap.size w w':=by
 by_cases h:r.client < 1\/4 < r.client\/r.num < 1\/1048576 < r.num
 ·have hs:Scu.reqFault r=2:=if_pos h
  rw [hs]
  go_enter Tryd.func52,Tryd.ntmps52
  go_wp2_with fail
  all_goals (go_ret;exact ⟨rfl,(mG _ _).alloc (mC _) _⟩)
 have hs:Scu.reqFault r=Scu.opFault r.op:=if_neg h
 rw [hs]
 have h1:1<=r.client:=by omega
 have h2:r.client<=4:=by omega
 have h3:1<=r.num:=by omega
 have h4:r.num<=1048576:=by omega
 clear h hs
 go_enter Tryd.func52,Tryd.ntmps52
 go_wp2_with fail
 refine (zFh _ _).mono ?_;rintro e w' ⟨rfl,hb⟩
 go_wp2
 go_ret
 exact ⟨rfl,((mG _ _).alloc (mC _) _).trans (hb.mono (by simp))⟩
theorem mem_ready {md:Region.Mode} {ops:Array Oper} {listed:Array Bool} {i:Nat} (h:i ∈ Region.ready md ops listed) :
 i < ops.size/\listed.getD i true=false/\((ops[i]?).map (·.after.all fun e=>!Region.binds md e || listed.getD e.on false)).getD false=true:=by
 unfold Region.ready at h
 rw [List.mem_filter] at h
 obtain ⟨h1,h2⟩:=h
 simp only [Bool.and_eq_true,Bool.not_eq_true'] at h2
 exact ⟨by simpa using h1,h2.1,h2.2⟩
def zOg (listed:Array Bool):Nat:=listed.countP (!·)
theorem zYe {listed:Array Bool} {i:Nat} (h:listed.getD i true=false):∃ hi:i < listed.size,listed[i]=false:=by
 rcases Nat.lt_or_ge i listed.size with Ha | Hb
 ·exact ⟨Ha,by rw [<- h];simp [Array.getD,Ha]⟩
 rw [Array.getD_eq_getD_getElem?,Array.getElem?_eq_none Hb] at h
 cases h
theorem zPh {listed:Array Bool} {i:Nat} (h:listed.getD i true=false):zOg (listed.setIfInBounds i true)+1<=zOg listed:=by
 obtain ⟨hi,hf⟩:=zYe h
 unfold zOg
 rw [Array.setIfInBounds_def,dif_pos hi,Array.countP_set]
 have:0 < listed.countP (!·):=by
  rw [Array.countP_pos_iff]
  exact ⟨false,by rw [<- hf];exact Array.getElem_mem hi,rfl⟩
 rw [hf]
 simp
 omega
theorem zSh {md:Region.Mode} {ops:Array Oper} {listed:Array Bool} (h:zOg listed=0):Region.ready md ops listed=[]:=by
 rw [List.eq_nil_iff_forall_not_mem]
 intro i hi
 have:=zPh (mem_ready hi).2.1
 omega
section
variable {P:Program} {ops:Array Oper} {Q:Exit->Act->World->Prop} {md:Region.Mode}
theorem zMp (I:Array Bool->Act->World->Prop)
 (Ha:∀ listed a w i,I listed a w->i ∈ Region.ready md ops listed->wpOp P ops Q i (fun a' w'=>I (listed.setIfInBounds i true) a' w') a w)
 (Hb:∀ listed a w,I listed a w->Region.ready md ops listed=[]->Q .normal a w) :
 ∀ fuel listed a w,zOg listed<=fuel->I listed a w->wpAny P md ops Q fuel listed a w
 | 0,listed,a,w,hl,hI=>by
   have hr:=zSh (md:=md) (ops:=ops) (show zOg listed=0 by omega)
   exact ⟨hr,Hb listed a w hI hr⟩
 | fuel+1,listed,a,w,hl,hI=>by
   refine ⟨Hb listed a w hI,fun i hi=>?_⟩
   have Hc:=zPh (mem_ready hi).2.1
   exact wpOp_mono (fun a' w' h=>zMp I Ha Hb fuel _ a' w' (by omega) h) (Ha listed a w i hI hi)
theorem zLi {id:Nat} {a:Act} {w:World} (hm:P.follows .mixedOrders=true) (I:Array Bool->Act->World->Prop)
 (h0:I (Array.replicate ops.size false) a { w with drawn:=w.drawn+1 })
 (Ha:∀ listed a w i,I listed a w->i ∈ Region.ready .any ops listed->wpOp P ops Q i (fun a' w'=>I (listed.setIfInBounds i true) a' w') a w)
 (Hb:∀ listed a w,I listed a w->Region.ready .any ops listed=[]->Q .normal a w):(Code.region id ops true).wp P Q a w :=
 wp_region_any hm (zMp I Ha Hb _ _ _ _ (by unfold zOg;simp [Array.countP_replicate]) h0)
theorem zEe {i:Nat} {o:Oper} {K:Act->World->Prop} {a:Act} {w:World} (hi:ops[i]? = some o) (hg:o.guard=none) (h:o.wp P a w K Q):wpOp P ops Q i K a w:=by
 unfold wpOp
 rw [hi]
 have hw:Region.wanted o (yielded ops a.tmps)=true:=by simp [Region.wanted,hg]
 simp only [hw,if_true]
 exact .inl h
end
def Dn (listed:Array Bool) (k:Nat):Prop:=listed.getD k false=true
theorem yAm {listed:Array Bool} {i k:Nat} (h:Dn (listed.setIfInBounds i true) k):k=i\/Dn listed k:=by
 unfold Dn at *
 by_cases e:k=i
 ·exact .inl e
 refine .inr ?_
 rw [Array.getD_eq_getD_getElem?,Array.getElem?_setIfInBounds_ne (fun h=>e h.symm),<- Array.getD_eq_getD_getElem?] at h
 exact h
theorem zAe {listed:Array Bool} {i k:Nat} (h:Dn (listed.setIfInBounds i true) k) (Ha:k≠i):Dn listed k:=(yAm h).resolve_left Ha
theorem zEv {n k:Nat} (h:Dn (Array.replicate n false) k):False:=by
 unfold Dn at h
 rw [Array.getD_eq_getD_getElem?] at h
 by_cases hk:k < n
 ·simp [hk] at h
 rw [Array.getElem?_eq_none (by simpa using hk)] at h
 cases h
theorem zUg {ops:Array Oper} {listed:Array Bool} (hb:(List.range ops.size).all (fun i=>((ops[i]?).map fun o=>o.after.all fun e=>decide (e.on < i)).getD false)=true)
 (hl:listed.size=ops.size) (h:Region.ready .any ops listed=[]):∀ k,k < ops.size->Dn listed k:=by
 intro k
 induction k using Nat.strongRecOn with
 | ind k ih =>
   intro hk
   unfold Dn
   cases hd:listed.getD k false with
   | true=>rfl
   | false =>
     exfalso
     have Hb:listed.getD k true=false:=by
      rw [Array.getD_eq_getD_getElem?] at hd ⊢
      rw [Array.getElem?_eq_getElem (by omega)] at hd ⊢
      exact hd
     have Ha:=List.all_eq_true.1 hb k (by simpa using hk)
     rw [Array.getElem?_eq_getElem hk] at Ha
     simp only [Option.map_some,Option.getD_some,Array.all_eq_true',decide_eq_true_eq] at Ha
     have:k ∈ Region.ready .any ops listed:=by
      unfold Region.ready
      rw [List.mem_filter]
      refine ⟨by simpa using hk,?_⟩
      rw [Hb,Array.getElem?_eq_getElem hk]
      simp only [Bool.not_false,Bool.true_and,Option.map_some,Option.getD_some,Array.all_eq_true']
      intro e he
      have Hc:=Ha e he
      have:=ih e.on Hc (by omega)
      unfold Dn at this
      rw [this]
      simp
     rw [h] at this
     cases this
open Go.RowKit
section
variable {P:Program} {ops:Array Oper} {Q:Exit->Act->World->Prop} {md:Region.Mode} {S:World->Prop} {t:Nat}
def wpAnyE (P:Program) (md:Region.Mode) (ops:Array Oper) (Q:Exit->Act->World->Prop) (S:World->Prop) (t:Nat):Nat->Array Bool->Act->World->Prop
 | 0,listed,a,w=>Region.ready md ops listed=[]/\Q .normal a w
 | fuel+1,listed,a,w =>
   (Region.ready md ops listed=[]->Q .normal a w) /\
   ∀ i ∈ Region.ready md ops listed,wpOp P ops Q i (fun a' w'=>(i=t\/S w')/\wpAnyE P md ops Q S t fuel (listed.setIfInBounds i true) a' w') a w
theorem zKp:∀ (fuel:Nat) (listed:Array Bool) (a:Act) (w:World),wpAnyE P md ops Q S t fuel listed a w->wpAny P md ops Q fuel listed a w
 | 0,_,_,_,h=>h
 | fuel+1,_,_,_,h=>⟨h.1,fun i hi=>wpOp_mono (fun a' w' h'=>zKp fuel _ a' w' h'.2) (h.2 i hi)⟩
def ShutL (md:Region.Mode) (ops:Array Oper) (l:Array Bool):Prop:=∀ (j:Nat) (oj:Oper),ops[j]? = some oj->l.getD j false=true->∀ e ∈ oj.after,Region.binds md e=true->l.getD e.on false=true
theorem ShutL.set {l:Array Bool} (h:ShutL md ops l) {i:Nat} (hi:i ∈ Region.ready md ops l):ShutL md ops (l.setIfInBounds i true):=by
 intro j oj Hb hl e he hb
 obtain ⟨_,oi,Hd,Ha⟩:=Go.mem_ready.1 hi
 by_cases Hc:i=j
 ·subst Hc
  have:oj=oi:=Option.some.inj (Hb.symm.trans Hd)
  subst this
  exact Go.getD_set_true (Ha e he hb)
 rw [Go.getD_set_ne false Hc] at hl
 exact Go.getD_set_true (h j oj Hb hl e he hb)
def reachB (md:Region.Mode) (ops:Array Oper) (i:Nat):Nat->Nat->Bool
 | 0,_=>false
 | f+1,j=>match ops[j]? with
   | some o=>o.after.any fun e=>Region.binds md e && (e.on == i || reachB md ops i f e.on)
   | none=>false
theorem zHr {i:Nat} {l:Array Bool} (h:ShutL md ops l):∀ (f j:Nat),reachB md ops i f j=true->(∀ oj,ops[j]? = some oj->∀ e ∈ oj.after,Region.binds md e=true->l.getD e.on false=true)->l.getD i false=true
 | 0,_,hr,_=>by cases hr
 | f+1,j,hr,Ha=>by
   unfold reachB at hr
   cases ho:ops[j]? with
   | none=>rw [ho] at hr;cases hr
   | some o =>
     rw [ho] at hr
     obtain ⟨e,he,hb⟩:=Array.any_eq_true'.1 hr
     simp only [Bool.and_eq_true,Bool.or_eq_true,beq_iff_eq] at hb
     have hl:=Ha o ho e he hb.1
     rcases hb.2 with hb | hb
     ·rw [<- hb];exact hl
     ·exact zHr h f e.on hb fun oj Hb e' Hc Hd=>h e.on oj Hb hl e' Hc Hd
theorem zMq {i f:Nat} {l:Array Bool} (h:ShutL md ops l) (hr:reachB md ops i f t=true) (hi:l.getD i true=false):t ∉ Region.ready md ops l:=fun ht=>by
 obtain ⟨_,o,ho,Ha⟩:=Go.mem_ready.1 ht
 have:=zHr h f t hr (fun oj Hb e he hb=>by
  have:oj=o:=Option.some.inj (Hb.symm.trans ho)
  subst this
  exact Ha e he hb)
 rcases Nat.lt_or_ge i l.size with h' | h'
 ·simp [h'] at hi this;rw [hi] at this;cases this
 simp [Array.getElem?_eq_none h'] at hi
theorem zMr {i f:Nat} {oi:Oper} {v:Value} (hi:ops[i]? = some oi) (Hd:∀ (j:Nat) (o:Oper) cs b,ops[j]? = some o->o.op≠.select cs b)
 (hQ:∀ c a w,Q (.panic c) (a.put oi.dst v) w->Q (.panic c) a w) (Hl:reachB md ops i f t=true):∀ (fuel:Nat) (listed:Array Bool) (a:Act) (w:World),
  (∀ j oj,ops[j]? = some oj->j≠i->listed.getD j true=false->(∀ e ∈ oj.after,Region.binds md e=true->e.on≠i)->oi.apart ops oj=true) ->
  i ∈ Region.ready md ops listed->ShutL md ops listed->YieldsIf P ops S oi v a->S w ->
  wpAnyE P md ops Q S t fuel (listed.setIfInBounds i true) (a.put oi.dst v) w->wpAnyE P md ops Q S t (fuel+1) listed a w:=by
 intro fuel
 induction fuel with
 | zero =>
   intro listed a w _ hr Hf hy hS H
   refine ⟨fun h=>(by rw [h] at hr;cases hr),fun j hj=>?_⟩
   by_cases Ha:j=i
   ·subst Ha;exact hy.wpOp hi hS ⟨.inr hS,H⟩
   ·have:=Go.ready_mono hj Ha
    rw [H.1] at this
    cases this
 | succ fuel ih =>
   intro listed a w Hb hr Hf hy hS H
   have h0:listed.getD i true=false:=(Go.mem_ready.1 hr).1
   refine ⟨fun h=>(by rw [h] at hr;cases hr),fun j hj=>?_⟩
   by_cases Ha:j=i
   ·subst Ha;exact hy.wpOp hi hS ⟨.inr hS,H⟩
   ·have h1:=H.2 j (Go.ready_mono hj Ha)
    have Hm:j≠t:=fun e=>zMq Hf Hl h0 (e ▸ hj)
    obtain ⟨He,oj,Hg,Hh⟩:=Go.mem_ready.1 hj
    have Hi:∀ e ∈ oj.after,Region.binds md e=true->e.on≠i:=fun e he hb Hn=>by
     have h1:=Hh e he hb
     rw [Hn] at h1
     rcases Nat.lt_or_ge i listed.size with h' | h'
     ·simp [h'] at h0 h1;rw [h0] at h1;cases h1
     simp [Array.getElem?_eq_none h'] at h1
    have h2:=wpOp_putIf Hg (Hb j oj Hg Ha He Hi) (fun cs b=>Hd i oi cs b hi) (fun cs b=>Hd j oj cs b Hg) hQ hy h1
    have Hc:∀ k ok,ops[k]? = some ok->k≠i->(listed.setIfInBounds j true).getD k true=false ->
     (∀ e ∈ ok.after,Region.binds md e=true->e.on≠i)->oi.apart ops ok=true:=fun k ok hk Ho Hj Hp=>by
     refine Hb k ok hk Ho ?_ Hp
     by_cases Hk:j=k
     ·subst Hk;exact He
     rw [Go.getD_set_ne true Hk] at Hj;exact Hj
    refine wpOp_mono (fun a' w' h3=>?_) h2
    obtain ⟨h4,h5,h6⟩:=h3
    have h5:=h5.resolve_left Hm
    refine ⟨.inr h5,ih (listed.setIfInBounds j true) a' w' Hc (Go.ready_mono hr (Ne.symm Ha)) (Hf.set hj) h4 h5 ?_⟩
    rw [Array.setIfInBounds_comm _ _ Ha]
    exact h6
theorem zAi {i:Nat} (f:Nat) {oi:Oper} {v:Value} {fuel:Nat} {listed:Array Bool} {a:Act} {w:World} (hi:ops[i]? = some oi)
 (hs:Region.noSelect ops=true) (hf:Region.free md ops listed i=true) (hr:(Region.ready md ops listed).contains i=true) (Hc:reachB md ops i f t=true)
 (hQ:∀ c a w,Q (.panic c) (a.put oi.dst v) w->Q (.panic c) a w) (hy:YieldsIf P ops S oi v a) (Ha:ShutL md ops listed) (hS:S w)
 (h:ShutL md ops (listed.setIfInBounds i true)->wpAnyE P md ops Q S t fuel (listed.setIfInBounds i true) (a.put oi.dst v) w):wpAnyE P md ops Q S t (fuel+1) listed a w :=
 have Hb:i ∈ Region.ready md ops listed:=by simpa using hr
 zMr hi (Region.noSelect_spec hs) hQ Hc fuel listed a w (Region.free_spec hi hf) Hb Ha hy hS (h (Ha.set Hb))
theorem zQw {rs:List Nat} {fuel:Nat} {listed:Array Bool} {a:Act} {w:World} (hr:Region.ready md ops listed=rs) (Ha:rs≠[])
 (h:∀ i ∈ rs,wpOp P ops Q i (fun a' w'=>(i=t\/S w')/\wpAnyE P md ops Q S t fuel (listed.setIfInBounds i true) a' w') a w):wpAnyE P md ops Q S t (fuel+1) listed a w :=
 ⟨fun h0=>absurd (hr ▸ h0) Ha,hr ▸ h⟩
theorem zAp {listed:Array Bool} {a:Act} {w:World} (hr:Region.ready md ops listed=[]) (h:Q .normal a w):∀ fuel,wpAnyE P md ops Q S t fuel listed a w
 | 0=>⟨hr,h⟩
 | _+1=>⟨fun _=>h,by rw [hr];simp⟩
theorem zAq {id:Nat} {a:Act} {w:World} (S:World->Prop) (t:Nat) (hm:P.follows .mixedOrders=true)
 (h:ShutL .any ops (Array.replicate ops.size false)->wpAnyE P .any ops Q S t ops.size (Array.replicate ops.size false) a { w with drawn:=w.drawn+1 }):(Code.region id ops true).wp P Q a w :=
 wp_region_any hm (zKp _ _ _ _ (h fun j oj _ hl=>by
  exfalso
  rw [Array.getD_eq_getD_getElem?] at hl
  by_cases hk:j < ops.size
  ·simp [hk] at hl
  rw [Array.getElem?_eq_none (by simpa using hk)] at hl
  cases hl))
end
open Go.RowKit
section
variable {P : Program} {ops : Array Oper} {Q : Exit -> Act -> World -> Prop} {md : Region.Mode} {S : World -> Prop} {t fuel i : Nat} {is : List Nat} {oi : Oper} {v : Value} {listed : Array Bool} {a : Act} {w : World} {K : Act -> World -> Prop}
theorem tkH (i : Nat) (hi : ops.toList[i]? = some oi) (hb : (Region.noSelect ops && Region.free md ops listed i && (Region.ready md ops listed).contains i) = true)
    (hQ : ∀ c a w, Q (.panic c) (a.put oi.dst v) w -> Q (.panic c) a w) (hy : YieldsIf P ops S oi v a) (hS : S w)
    (h : wpAnyH P md ops Q S fuel (listed.setIfInBounds i true) (a.put oi.dst v) w) : wpAnyH P md ops Q S (fuel + 1) listed a w := by
  rw [Bool.and_eq_true, Bool.and_eq_true] at hb
  exact wpAnyH_take (by rw [<- Array.getElem?_toList]; exact hi) hb.1.1 hb.1.2 hb.2 hQ hy hS h
theorem tkE (i f : Nat) (hi : ops.toList[i]? = some oi) (hb : (Region.noSelect ops && Region.free md ops listed i && (Region.ready md ops listed).contains i && reachB md ops i f t) = true)
    (hQ : ∀ c a w, Q (.panic c) (a.put oi.dst v) w -> Q (.panic c) a w) (hy : YieldsIf P ops S oi v a) (hsh : ShutL md ops listed) (hS : S w)
    (h : ShutL md ops (listed.setIfInBounds i true) -> wpAnyE P md ops Q S t fuel (listed.setIfInBounds i true) (a.put oi.dst v) w) : wpAnyE P md ops Q S t (fuel + 1) listed a w := by
  rw [Bool.and_eq_true, Bool.and_eq_true, Bool.and_eq_true] at hb
  exact zAi f (by rw [<- Array.getElem?_toList]; exact hi) hb.1.1.1 hb.1.1.2 hb.1.2 hb.2 hQ hy hsh hS h
/-- A row of numbers that may be taken first, one after the other. -/
def chR (md : Region.Mode) (ops : Array Oper) (t f : Nat) (e : Bool) : List Nat -> Array Bool -> Bool
  | [], _ => true
  | i :: is, l => (ops.toList[i]?.bind (·.dst)).isSome && Region.free md ops l i && (Region.ready md ops l).contains i && (!e || reachB md ops i f t) && chR md ops t f e is (l.setIfInBounds i true)
/-- What a row of operations yields, one after the other; K behind them. -/
def tkR (P : Program) (ops : Array Oper) (S : World -> Prop) (K : Nat -> Array Bool -> Act -> Prop) : List Nat -> Nat -> Array Bool -> Act -> Prop
  | [] => fun n l a => K n l a
  | i :: is => fun n l a => ∃ m oi v, n = m + 1 /\ ops.toList[i]? = some oi /\ YieldsIf P ops S oi v a /\ tkR P ops S K is m (l.setIfInBounds i true) (a.put oi.dst v)
theorem tkc {K : Nat -> Array Bool -> Act -> Prop} (hi : ops.toList[i]? = some oi) (hy : YieldsIf P ops S oi v a) (h : tkR P ops S K is fuel (listed.setIfInBounds i true) (a.put oi.dst v)) :
    tkR P ops S K (i :: is) (fuel + 1) listed a := ⟨_, _, _, rfl, hi, hy, h⟩
theorem tkz {K : Nat -> Array Bool -> Act -> Prop} (h : K fuel listed a) : tkR P ops S K [] fuel listed a := h
theorem tkHs (is : List Nat) (hb : (Region.noSelect ops && chR md ops 0 0 false is listed) = true) (hQ : ∀ d v c a w, Q (.panic c) (a.put (some d) v) w -> Q (.panic c) a w) (hS : S w)
    (h : tkR P ops S (fun n l a => wpAnyH P md ops Q S n l a w) is fuel listed a) : wpAnyH P md ops Q S fuel listed a w := by
  rw [Bool.and_eq_true] at hb
  obtain ⟨hn, hb⟩ := hb
  induction is generalizing fuel listed a with
  | nil => exact h
  | cons i is ih =>
    obtain ⟨m, oi, v, rfl, hi, hy, h⟩ := h
    simp only [chR, Bool.and_eq_true, hi, Option.bind_some] at hb
    obtain ⟨d, hd⟩ := Option.isSome_iff_exists.1 hb.1.1.1.1
    exact wpAnyH_take (by rw [<- Array.getElem?_toList]; exact hi) hn hb.1.1.1.2 hb.1.1.2 (by rw [hd]; exact hQ _ _) hy hS (ih h hb.2)
theorem tkEs (f : Nat) (is : List Nat) (hb : (Region.noSelect ops && chR md ops t f true is listed) = true) (hQ : ∀ d v c a w, Q (.panic c) (a.put (some d) v) w -> Q (.panic c) a w) (hsh : ShutL md ops listed) (hS : S w)
    (h : tkR P ops S (fun n l a => ShutL md ops l -> wpAnyE P md ops Q S t n l a w) is fuel listed a) : wpAnyE P md ops Q S t fuel listed a w := by
  rw [Bool.and_eq_true] at hb
  obtain ⟨hn, hb⟩ := hb
  induction is generalizing fuel listed a with
  | nil => exact h hsh
  | cons i is ih =>
    obtain ⟨m, oi, v, rfl, hi, hy, h⟩ := h
    simp only [chR, Bool.and_eq_true, hi, Option.bind_some] at hb
    obtain ⟨d, hd⟩ := Option.isSome_iff_exists.1 hb.1.1.1.1
    exact zAi f (by rw [<- Array.getElem?_toList]; exact hi) hn hb.1.1.1.2 hb.1.1.2 (by simpa using hb.1.2) (by rw [hd]; exact hQ _ _) hy hsh hS fun hsh => ih hsh h hb.2
theorem alH (i : Nat) (hr : Region.ready md ops listed = [i])
    (h : wpOp P ops Q i (fun a' w' => S w' /\ wpAnyH P md ops Q S fuel (listed.setIfInBounds i true) a' w') a w) : wpAnyH P md ops Q S (fuel + 1) listed a w :=
  wpAnyH_all hr (by simp) (by simpa using h)
theorem alE (i : Nat) (hr : Region.ready md ops listed = [i])
    (h : wpOp P ops Q i (fun a' w' => (i = t\/S w') /\ wpAnyE P md ops Q S t fuel (listed.setIfInBounds i true) a' w') a w) : wpAnyE P md ops Q S t (fuel + 1) listed a w :=
  zQw hr (by simp) (by simpa using h)
end
open Go.RowKit
section
variable {P:Program} {ops:Array Oper} {Q:Exit->Act->World->Prop} {md:Region.Mode} {S:World->Prop} {T:List Nat}
def wpAnyF (P:Program) (md:Region.Mode) (ops:Array Oper) (Q:Exit->Act->World->Prop) (S:World->Prop) (T:List Nat):Nat->Array Bool->Act->World->Prop
 | 0,listed,a,w=>Region.ready md ops listed=[]/\Q .normal a w
 | fuel+1,listed,a,w =>
   (Region.ready md ops listed=[]->Q .normal a w) /\
   ∀ i ∈ Region.ready md ops listed,wpOp P ops Q i (fun a' w'=>(i ∈ T\/S w')/\wpAnyF P md ops Q S T fuel (listed.setIfInBounds i true) a' w') a w
theorem zKq:∀ (fuel:Nat) (listed:Array Bool) (a:Act) (w:World),wpAnyF P md ops Q S T fuel listed a w->wpAny P md ops Q fuel listed a w
 | 0,_,_,_,h=>h
 | fuel+1,_,_,_,h=>⟨h.1,fun i hi=>wpOp_mono (fun a' w' h'=>zKq fuel _ a' w' h'.2) (h.2 i hi)⟩
theorem zMs {i f:Nat} {oi:Oper} {v:Value} (hi:ops[i]? = some oi) (Hd:∀ (j:Nat) (o:Oper) cs b,ops[j]? = some o->o.op≠.select cs b)
 (hQ:∀ c a w,Q (.panic c) (a.put oi.dst v) w->Q (.panic c) a w) (Hl:(T.all fun t=>reachB md ops i f t)=true):∀ (fuel:Nat) (listed:Array Bool) (a:Act) (w:World),
  (∀ j oj,ops[j]? = some oj->j≠i->listed.getD j true=false->(∀ e ∈ oj.after,Region.binds md e=true->e.on≠i)->oi.apart ops oj=true) ->
  i ∈ Region.ready md ops listed->ShutL md ops listed->YieldsIf P ops S oi v a->S w ->
  wpAnyF P md ops Q S T fuel (listed.setIfInBounds i true) (a.put oi.dst v) w->wpAnyF P md ops Q S T (fuel+1) listed a w:=by
 intro fuel
 induction fuel with
 | zero =>
   intro listed a w _ hr Hf hy hS H
   refine ⟨fun h=>(by rw [h] at hr;cases hr),fun j hj=>?_⟩
   by_cases Ha:j=i
   ·subst Ha;exact hy.wpOp hi hS ⟨.inr hS,H⟩
   ·have:=Go.ready_mono hj Ha
    rw [H.1] at this
    cases this
 | succ fuel ih =>
   intro listed a w Hb hr Hf hy hS H
   have h0:listed.getD i true=false:=(Go.mem_ready.1 hr).1
   refine ⟨fun h=>(by rw [h] at hr;cases hr),fun j hj=>?_⟩
   by_cases Ha:j=i
   ·subst Ha;exact hy.wpOp hi hS ⟨.inr hS,H⟩
   ·have h1:=H.2 j (Go.ready_mono hj Ha)
    have Hm:j ∉ T:=fun e=>zMq Hf (List.all_eq_true.1 Hl j e) h0 hj
    obtain ⟨He,oj,Hg,Hh⟩:=Go.mem_ready.1 hj
    have Hi:∀ e ∈ oj.after,Region.binds md e=true->e.on≠i:=fun e he hb Hn=>by
     have h1:=Hh e he hb
     rw [Hn] at h1
     rcases Nat.lt_or_ge i listed.size with h' | h'
     ·simp [h'] at h0 h1;rw [h0] at h1;cases h1
     simp [Array.getElem?_eq_none h'] at h1
    have h2:=wpOp_putIf Hg (Hb j oj Hg Ha He Hi) (fun cs b=>Hd i oi cs b hi) (fun cs b=>Hd j oj cs b Hg) hQ hy h1
    have Hc:∀ k ok,ops[k]? = some ok->k≠i->(listed.setIfInBounds j true).getD k true=false ->
     (∀ e ∈ ok.after,Region.binds md e=true->e.on≠i)->oi.apart ops ok=true:=fun k ok hk Ho Hj Hp=>by
     refine Hb k ok hk Ho ?_ Hp
     by_cases Hk:j=k
     ·subst Hk;exact He
     rw [Go.getD_set_ne true Hk] at Hj;exact Hj
    refine wpOp_mono (fun a' w' h3=>?_) h2
    obtain ⟨h4,h5,h6⟩:=h3
    have h5:=h5.resolve_left Hm
    refine ⟨.inr h5,ih (listed.setIfInBounds j true) a' w' Hc (Go.ready_mono hr (Ne.symm Ha)) (Hf.set hj) h4 h5 ?_⟩
    rw [Array.setIfInBounds_comm _ _ Ha]
    exact h6
theorem zOh {i:Nat} (f:Nat) {oi:Oper} {v:Value} {fuel:Nat} {listed:Array Bool} {a:Act} {w:World} (hi:ops[i]? = some oi)
 (hs:Region.noSelect ops=true) (hf:Region.free md ops listed i=true) (hr:(Region.ready md ops listed).contains i=true) (Hc:(T.all fun t=>reachB md ops i f t)=true)
 (hQ:∀ c a w,Q (.panic c) (a.put oi.dst v) w->Q (.panic c) a w) (hy:YieldsIf P ops S oi v a) (Ha:ShutL md ops listed) (hS:S w)
 (h:ShutL md ops (listed.setIfInBounds i true)->wpAnyF P md ops Q S T fuel (listed.setIfInBounds i true) (a.put oi.dst v) w):wpAnyF P md ops Q S T (fuel+1) listed a w :=
 have Hb:i ∈ Region.ready md ops listed:=by simpa using hr
 zMs hi (Region.noSelect_spec hs) hQ Hc fuel listed a w (Region.free_spec hi hf) Hb Ha hy hS (h (Ha.set Hb))
theorem zKr {rs:List Nat} {fuel:Nat} {listed:Array Bool} {a:Act} {w:World} (hr:Region.ready md ops listed=rs) (Ha:rs≠[])
 (h:∀ i ∈ rs,wpOp P ops Q i (fun a' w'=>(i ∈ T\/S w')/\wpAnyF P md ops Q S T fuel (listed.setIfInBounds i true) a' w') a w):wpAnyF P md ops Q S T (fuel+1) listed a w :=
 ⟨fun h0=>absurd (hr ▸ h0) Ha,hr ▸ h⟩
theorem zOi {listed:Array Bool} {a:Act} {w:World} (hr:Region.ready md ops listed=[]) (h:Q .normal a w):∀ fuel,wpAnyF P md ops Q S T fuel listed a w
 | 0=>⟨hr,h⟩
 | _+1=>⟨fun _=>h,by rw [hr];simp⟩
theorem zOj {id:Nat} {a:Act} {w:World} (S:World->Prop) (T:List Nat) (hm:P.follows .mixedOrders=true)
 (h:ShutL .any ops (Array.replicate ops.size false)->wpAnyF P .any ops Q S T ops.size (Array.replicate ops.size false) a { w with drawn:=w.drawn+1 }):(Code.region id ops true).wp P Q a w :=
 wp_region_any hm (zKq _ _ _ _ (h fun j oj _ hl=>by
  exfalso
  rw [Array.getD_eq_getD_getElem?] at hl
  by_cases hk:j < ops.size
  ·simp [hk] at hl
  rw [Array.getElem?_eq_none (by simpa using hk)] at hl
  cases hl))
end
open Go.RowKit
def R47:Nat:=140737488351232
def Rd (w:World) (B:Nat) (t:TypeId) (A:Option Addr) (cs:List Value):Prop :=
 cs=[]\/∃ g o,A=some ⟨g,o,none⟩/\g < w.heap.size/\(g < B\/∃ C fz,w.heap[g]? = some (.cells C t fz))/\∀ (j:Nat) (u:Value),cs[j]? = some u->w.cell? ⟨g,o+j,none⟩=some u
section
variable {w w':World} {B B':Nat} {t:TypeId} {A:Option Addr} {cs:List Value}
theorem Rd.nil:Rd w B t A []:=.inl rfl
theorem Rd.get {k:Nat} {u:Value} (h:Rd w B t A cs) (hk:cs[k]? = some u):∃ g o,A=some ⟨g,o,none⟩/\g < w.heap.size/\w.cell? ⟨g,o+k,none⟩=some u:=by
 rcases h with rfl | ⟨g,o,h1,h2,_,h4⟩
 ·simp at hk
 exact ⟨g,o,h1,h2,h4 k u hk⟩
theorem Rd.keep (h:Rd w B t A cs) (hs:w.heap.size<=w'.heap.size) (hk:∀ g,g < w.heap.size->(g < B\/∃ C fz,w.heap[g]? = some (.cells C t fz))->w'.heap[g]? = w.heap[g]?):Rd w' B t A cs:=by
 rcases h with h | ⟨g,o,h1,h2,h3,h4⟩
 ·exact .inl h
 have e:=hk g h2 h3
 refine .inr ⟨g,o,h1,by omega,?_,fun j u hj=>?_⟩
 ·rw [e];exact h3
 rw [World.cell?_of_block (w:=w) (w':=w') (a:=⟨g,o+j,none⟩) e];exact h4 j u hj
theorem Rd.below (h:Rd w B t A cs) (hb:Below w.heap.size w w'):Rd w' B t A cs:=h.keep hb.size fun g hg _=>hb.block g hg
theorem Rd.drew (h:Rd w B t A cs):Rd w.drew B t A cs:=h
theorem Rd.drewN (h:Rd w B t A cs) (n:Nat):Rd (w.drewN n) B t A cs:=h
theorem Rd.alloc (h:Rd w B t A cs) (o:Obj):Rd (w.alloc o) B t A cs:=h.keep (by simp) fun g hg _=>Below.heap_alloc w o g hg
theorem Rd.mono (h:Rd w B t A cs) (hB:B<=B'):Rd w B' t A cs:=by
 rcases h with h | ⟨g,o,h1,h2,h3,h4⟩
 ·exact .inl h
 exact .inr ⟨g,o,h1,h2,h3.imp (by omega) id,h4⟩
theorem Rd.setCell (h:Rd w B t A cs) {p:Addr} {C:Array Value} {t':TypeId} {fz:Nat × Nat} (hp:w.heap[p.block]? = some (.cells C t' fz)) (hB:B<=p.block) (ht:t'≠t) (u:Value):Rd (w.setCell p u) B t A cs :=
 h.keep (by simp [World.setCell]) fun g hg hk=>Below.heap_setCell w p u g (by
  rintro rfl
  rcases hk with hk | ⟨C',fz',hk⟩
  ·omega
  rw [hp] at hk
  cases hk
  exact ht rfl)
theorem Rd.grown (h:Rd w B t A cs) {row:Option Nat} (hg:w.grownBy w' row) (hr:∀ g,row=some g->B<=g/\∀ C fz,w.heap[g]? ≠some (.cells C t fz)):Rd w' B t A cs :=
 h.keep hg.size fun g Ha hk=>hg.block g Ha fun e=>by
  obtain ⟨h1,h2⟩:=hr g e.symm
  rcases hk with hk | ⟨C,fz,hk⟩
  ·omega
  exact h2 C fz hk
theorem Rd.take (h:Rd w B t A cs) (n:Nat):Rd w B t A (cs.take n):=by
 rcases h with h | ⟨g,o,h1,h2,h3,h4⟩
 ·subst h;exact .inl (by simp)
 exact .inr ⟨g,o,h1,h2,h3,fun j u hj=>h4 j u (by
  have:j < n:=by
   rcases Nat.lt_or_ge j n with h | h
   ·exact h
   rw [List.getElem?_eq_none (by rw [List.length_take];omega)] at hj;cases hj
  rwa [List.getElem?_take_of_lt this] at hj)⟩
end
def Blk (w:World) (g:Nat) (t:TypeId) (cs:Array Value):Prop:=w.heap[g]? = some (.cells cs t (0,0))
section
variable {w w':World} {g:Nat} {t:TypeId} {cs:Array Value}
theorem Blk.lt (h:Blk w g t cs):g < w.heap.size:=by
 rcases Nat.lt_or_ge g w.heap.size with hlt | Ha
 ·exact hlt
 unfold Blk at h;rw [Array.getElem?_eq_none Ha] at h;cases h
theorem Blk.cell (h:Blk w g t cs) (i:Nat):w.cell? ⟨g,i,none⟩=cs[i]?:=by
 unfold Blk at h
 simp [World.cell?,h]
theorem Blk.frozen (h:Blk w g t cs) (i:Nat):w.frozen? ⟨g,i,none⟩=false:=by
 unfold Blk at h
 simp [World.frozen?,h]
theorem Blk.new (w:World) (t:TypeId) (cs:Array Value):Blk (w.alloc (.cells cs t)) w.heap.size t cs:=by
 show (w.heap.push _)[w.heap.size]? = _
 simp
theorem Blk.new' {w:World} {g:Nat} {t:TypeId} {cs:Array Value} (h:g=w.heap.size):Blk (w.alloc (.cells cs t)) g t cs:=by subst h;exact Blk.new w t cs
theorem Blk.drew (h:Blk w g t cs):Blk w.drew g t cs:=h
theorem Blk.drewN (h:Blk w g t cs) (n:Nat):Blk (w.drewN n) g t cs:=h
theorem Blk.alloc (h:Blk w g t cs) (o:Obj):Blk (w.alloc o) g t cs:=(Below.heap_alloc w o g h.lt).trans h
theorem Blk.far (h:Blk w g t cs) {p:Addr} (hp:g≠p.block) (u:Value):Blk (w.setCell p u) g t cs:=(Below.heap_setCell w p u g hp).trans h
theorem Blk.below {B:Nat} (h:Blk w g t cs) (hb:Below B w w') (hg:g < B):Blk w' g t cs:=(hb.block g hg).trans h
theorem Blk.set_ (h:Blk w g t cs) (i:Nat) (u:Value):Blk (w.setCell ⟨g,i,none⟩ u) g t (cs.setIfInBounds i u):=by
 unfold Blk at h ⊢
 simp [World.setCell,Array.getElem?_modify,h]
theorem Blk.same (h:Blk w g t cs) (hb:Below w.heap.size w w'):Blk w' g t cs:=h.below hb h.lt
end
theorem bcell {W w1:World} {B:Nat} (hb:Below B W w1):(∀ b o,b < B->w1.cell? ⟨b,o,none⟩=W.cell? ⟨b,o,none⟩)/\(∀ b o,b < B->w1.frozen? ⟨b,o,none⟩=W.frozen? ⟨b,o,none⟩) :=
 ⟨fun b o h=>hb.cell (p:=⟨b,o,none⟩) h,fun b o h=>hb.frozen (p:=⟨b,o,none⟩) h⟩
theorem zAj {w w':World} {o:Obj} (h:Below (w.alloc o).heap.size (w.alloc o) w'):Below w.heap.size w w' :=
 ((mG _ _).alloc (mC _) _).trans (h.mono (by simp))
theorem zBu {w w':World} {o:Obj} (h:Below (w.alloc o).heap.size (w.alloc o) w'):w.heap.size < w'.heap.size:=by
 have:=h.size
 simp at this
 omega
theorem zCl {P:Program} {f:FuncId} {args:Array Value} {w:World} {a:Nat} {v:Value}
 (h:Calls P f args (w.drewN a) fun e w'=>e=.returned v/\∃ m,w'=(w.drewN a).drewN m) :
 Calls P f args (w.drewN a) fun e w''=>e=.returned v/\∃ m,w''=w.drewN m :=
 h.mono fun _ _ ⟨he,m,hm⟩=>⟨he,a+m,by rw [hm,World.drewN_drewN]⟩
structure IsStrs (w:World) (B:Nat) (v:Value) (xs:List Scu.Str):Prop where
 ex:∃ A c,v=.slice A xs.length c/\xs.length<=c/\Rd w B 9 A (xs.map Value.string)
 len:xs.length*16<=R47
 each:∀ s ∈ xs,s.size<=R47
section
variable {w w':World} {B B':Nat} {v:Value} {xs:List Scu.Str}
theorem IsStrs.below (h:IsStrs w B v xs) (hb:Below w.heap.size w w'):IsStrs w' B v xs:=⟨let ⟨A,c,h1,h2,h3⟩:=h.ex;⟨A,c,h1,h2,h3.below hb⟩,h.len,h.each⟩
theorem IsStrs.drewN (h:IsStrs w B v xs) (n:Nat):IsStrs (w.drewN n) B v xs:=⟨h.ex,h.len,h.each⟩
theorem IsStrs.alloc (h:IsStrs w B v xs) (o:Obj):IsStrs (w.alloc o) B v xs:=⟨let ⟨A,c,h1,h2,h3⟩:=h.ex;⟨A,c,h1,h2,h3.alloc o⟩,h.len,h.each⟩
theorem IsStrs.mono (h:IsStrs w B v xs) (hB:B<=B'):IsStrs w B' v xs:=⟨let ⟨A,c,h1,h2,h3⟩:=h.ex;⟨A,c,h1,h2,h3.mono hB⟩,h.len,h.each⟩
theorem IsStrs.keep (h:IsStrs w B v xs) (hs:w.heap.size<=w'.heap.size) (hk:∀ g,g < w.heap.size->(g < B\/∃ C fz,w.heap[g]? = some (.cells C 9 fz))->w'.heap[g]? = w.heap[g]?):IsStrs w' B v xs :=
 ⟨let ⟨A,c,h1,h2,h3⟩:=h.ex;⟨A,c,h1,h2,h3.keep hs hk⟩,h.len,h.each⟩
theorem IsStrs.nil_:IsStrs w B (.slice none 0 0) []:=⟨⟨none,0,rfl,mC _,Rd.nil⟩,by simp [R47],fun s hs=>by cases hs⟩
end
theorem zEf {w:World} {B:Nat} {A:Option Addr} {xs:List Scu.Str} {k:Nat} (h:Rd w B 9 A (xs.map Value.string)) (hk:k < xs.length) :
 ∃ g o,A=some ⟨g,o,none⟩/\g < w.heap.size/\w.cell? ⟨g,o+k,none⟩=some (.string xs[k]) :=
 h.get (by simp [hk])
theorem zFi {α:Type} [DecidableEq α] {xs ys:List α} {k:Nat} (h:xs.take k=ys.take k) (hx:k < xs.length) (hy:k < ys.length) (he:xs[k]=ys[k]):xs.take (k+1)=ys.take (k+1):=by
 rw [List.take_succ_eq_append_getElem hx,List.take_succ_eq_append_getElem hy,h,he]
open Go.RowKit
theorem zFj (a b:ByteArray):(a.toList == b.toList)=decide (a=b):=by
 rw [ByteArray.toList_eq,ByteArray.toList_eq,Bool.eq_iff_iff,beq_iff_eq,decide_eq_true_eq]
 exact ⟨fun e=>ByteArray.ext (Array.toList_inj.1 e),fun e=>by rw [e]⟩
structure IsRows (w:World) (B:Nat) (v:Value) (xss:List (List Scu.Str)):Prop where
 ex:∃ A c vs,v=.slice A xss.length c/\xss.length<=c/\Rd w B 42 A vs/\vs.length=xss.length/\∀ (j:Nat) (u:Value) (x:List Scu.Str),vs[j]? = some u->xss[j]? = some x->IsStrs w B u x
 len:xss.length*24<=R47
section
variable {w w':World} {B B':Nat} {v:Value} {xss:List (List Scu.Str)}
theorem IsRows.keep (h:IsRows w B v xss) (hs:w.heap.size<=w'.heap.size) (hk:∀ g,g < w.heap.size->(g < B\/∃ C fz t,(t=9\/t=42)/\w.heap[g]? = some (.cells C t fz))->w'.heap[g]? = w.heap[g]?):IsRows w' B v xss :=
 ⟨let ⟨A,c,vs,h1,h2,h3,h4,h5⟩:=h.ex
  ⟨A,c,vs,h1,h2,h3.keep hs (fun g hg hh=>hk g hg (hh.imp id fun ⟨C,fz,e⟩=>⟨C,fz,_,.inr rfl,e⟩)),h4,fun j u x a b=>(h5 j u x a b).keep hs (fun g hg hh=>hk g hg (hh.imp id fun ⟨C,fz,e⟩=>⟨C,fz,_,.inl rfl,e⟩))⟩,h.len⟩
theorem IsRows.below (h:IsRows w B v xss) (hb:Below w.heap.size w w'):IsRows w' B v xss:=h.keep hb.size fun g hg _=>hb.block g hg
theorem IsRows.drewN (h:IsRows w B v xss) (n:Nat):IsRows (w.drewN n) B v xss:=h.keep (mC _) fun _ _ _=>rfl
theorem IsRows.alloc (h:IsRows w B v xss) (o:Obj):IsRows (w.alloc o) B v xss:=h.keep (by simp) fun g hg _=>Below.heap_alloc w o g hg
theorem IsRows.mono (h:IsRows w B v xss) (hB:B<=B'):IsRows w B' v xss :=
 ⟨let ⟨A,c,vs,h1,h2,h3,h4,h5⟩:=h.ex;⟨A,c,vs,h1,h2,h3.mono hB,h4,fun j u x a b=>(h5 j u x a b).mono hB⟩,h.len⟩
end
theorem zPi {w:World} {B:Nat} {A:Option Addr} {vs:List Value} {xss:List (List Scu.Str)} {k:Nat} (h:Rd w B 42 A vs) (hl:vs.length=xss.length)
 (h5:∀ (j:Nat) (u:Value) (x:List Scu.Str),vs[j]? = some u->xss[j]? = some x->IsStrs w B u x) (hk:k < xss.length) :
 ∃ g o u,A=some ⟨g,o,none⟩/\g < w.heap.size/\w.cell? ⟨g,o+k,none⟩=some u/\IsStrs w B u xss[k]:=by
 have Ha:k < vs.length:=by omega
 obtain ⟨g,o,h1,h2,h3⟩:=h.get (mH Ha)
 exact ⟨g,o,_,h1,h2,h3,h5 k _ _ (mH Ha) (mH hk)⟩
structure IsVolume (w:World) (B:Nat) (nv sv:Value) (x:Scu.Volume):Prop where
 now:IsStrs w B nv x.now
 snaps:IsRows w B sv x.snaps
theorem IsVolume.below {w w':World} {B:Nat} {nv sv:Value} {x:Scu.Volume} (h:IsVolume w B nv sv x) (hb:Below w.heap.size w w'):IsVolume w' B nv sv x:=⟨h.now.below hb,h.snaps.below hb⟩
theorem IsVolume.drewN {w:World} {B:Nat} {nv sv:Value} {x:Scu.Volume} (h:IsVolume w B nv sv x) (n:Nat):IsVolume (w.drewN n) B nv sv x:=⟨h.now.drewN n,h.snaps.drewN n⟩
theorem IsVolume.alloc {w:World} {B:Nat} {nv sv:Value} {x:Scu.Volume} (h:IsVolume w B nv sv x) (o:Obj):IsVolume (w.alloc o) B nv sv x:=⟨h.now.alloc o,h.snaps.alloc o⟩
open Go.RowKit Go.ChangeShapes Go.WideShapes Go.ChangeAt
def vOp (o:Scu.Op):Value:=.agg #[.int .i64 o.kind,.int .i64 o.at_,.int .i64 o.snap,.string o.data]
def vRequest (r:Scu.Request):Value:=.agg #[.int .i64 r.client,.int .i64 r.num,.int .i64 r.op.kind,.int .i64 r.op.at_,.int .i64 r.op.snap,.string r.op.data]
theorem zSi:Tryd.prog.cellsOf 3=1:=by kernel_rfl
section
variable {H:Type} {enc:TypeId × Value->H} {w:World} {base:Nat} {spare:Nat->Bool} {held:Bool} {n:Nat} {cs:List Value} {y:Option (DataW H × List MemPlace)}
end
section
variable {H:Type} {enc:TypeId × Value->H} {w:World} {base:Nat} {spare:Nat->Bool} {held:Bool} {d:DataW H} {p:List MemPlace} {v:Value} {b0:Nat}
end
end Go.Proofs.YtnpphdaakookcaaDoor

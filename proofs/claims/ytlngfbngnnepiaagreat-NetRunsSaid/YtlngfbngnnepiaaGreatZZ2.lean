/- Part 2: words and walks under the laws of the whole. -/
import Derived.Lib.Hide
import Derived.Below
import Derived.Test.YtlngfbngnnepiaaGreatChecked
import Derived.WalkKit
import Derived.WalkLawsBesides
import Derived.WalkSpells
import Derived.Deep.QuietTactic
import Derived.BigQuiet
import Derived.Lib.Hide
import Derived.Handy
import Derived.WalkSmall
import Derived.Deep.RegionWith
import Derived.Deep.RegionHeld3
import Derived.StillTailTactics
import Derived.Orders
import Derived.OrdersHeld
import Derived.RegionTactic
import Derived.Deep.Slices
import Derived.Deep.Fields
import Derived.Deep.Draws
import Derived.ProofKit
import Derived.OpenShut
import Derived.ShutString
import Derived.Test.YtlngfbngnnepiaaGreatZZ1
set_option linter.unusedVariables false
set_option linter.unusedSimpArgs false
set_option maxHeartbeats 4000000
set_option maxRecDepth 100000
namespace Go.Proofs.YtlngfbngnnepiaaGreat
theorem mA {P : Prop} (h : P) : RowKit.Hid P := h
theorem mG (B : Nat) (w : World) : RowKit.Below B w w := RowKit.Below.refl B w
open Go.RowKit
theorem zHw {n:Int} (h0:0<=n) (h1:n < 256):UInt8.ofNat n.toNat=Scu.b8 n:=by
 unfold Scu.b8;rw [Int.emod_eq_of_lt h0 h1]
theorem zVw (n:Int):UInt8.ofNat (n % 256).toNat=Scu.b8 n:=rfl
theorem zLu (w:World) (xs:List Int) :
 (convert 110 9 (.slice (some ⟨w.heap.size,0,none⟩) xs.length xs.length)).run Tryz.prog (w.alloc (.cells (xs.map (Value.int .u8)).toArray 5)) =
  .ok (.string (strOfNums xs)) (w.alloc (.cells (xs.map (Value.int .u8)).toArray 5)):=by
 refine run_convert_bytes_arg _ 110 5 Tryz.underlying110 Tryz.underlying5 w.heap.size 0 xs.length xs.length xs rfl (fun i hi=>?_) 9 Tryz.underlying9;have:=World.cell?_alloc_mark w (xs.map (Value.int .u8)).toArray 5 (0,0) (0+i);rw [this];simp [mH hi,List.getD]
theorem zGt (w:World) (g:Nat) (a b c d:Int) (hg:g=w.heap.size) :
 (convert 110 9 (.slice (some ⟨g,0,none⟩) 4 4)).run Tryz.prog (w.alloc (.cells #[.int .u8 a,.int .u8 b,.int .u8 c,.int .u8 d] 5)) =
  .ok (.string (strOfNums [a,b,c,d])) (w.alloc (.cells #[.int .u8 a,.int .u8 b,.int .u8 c,.int .u8 d] 5)):=by subst hg;exact zLu w [a,b,c,d]
theorem zIj (w:World) (g:Nat) (a:Int) (hg:g=w.heap.size) :
 (convert 110 9 (.slice (some ⟨g,0,none⟩) 1 1)).run Tryz.prog (w.alloc (.cells #[.int .u8 a] 5)) =
  .ok (.string (strOfNums [a])) (w.alloc (.cells #[.int .u8 a] 5)):=by subst hg;exact zLu w [a]
theorem zDa {a b c d:Value} (h:a=c) (k:b=d):Ending.returned (.tuple #[a,b])=Ending.returned (.tuple #[c,d]):=by rw [h,k]
theorem zAb {a b:Value} (h:a=b):Ending.returned a=Ending.returned b:=by rw [h]
theorem zFf {a b:ByteArray} (h:a=b):Value.string a=Value.string b:=by rw [h]
theorem zAd {k:IntKind} {a b:Int} (h:a=b):Value.int k a=Value.int k b:=by rw [h]
theorem zBa {a b:Bool} (h:a=b):Value.bool a=Value.bool b:=by rw [h]
theorem zFz (s:ByteArray) (i:Nat) (h:i < s.size):((s[i]'h).toNat:Int)=Scu.byteAt s i:=by
 unfold Scu.byteAt;have h':i < s.data.toList.length:=by simpa using h
 rw [mI,mH h'];rfl
theorem zAv (s:ByteArray) (i:Nat):0<=Scu.byteAt s i/\Scu.byteAt s i < 256:=by
 unfold Scu.byteAt;have:=(s.data.toList.getD i 0).toNat_lt;omega
theorem zLv (a:Nat) (ha:a < 9223372036854775808):(BitVec.ofInt 64 (a:Int)).toNat=a:=by
 rw [BitVec.ofInt_natCast,BitVec.toNat_ofNat];exact Nat.mod_eq_of_lt (by omega)
theorem zPp (a b:Nat) (ha:a < 9223372036854775808) (hb:b < 9223372036854775808):bits .or .i64 (a:Int) (b:Int)=((a ||| b:Nat):Int):=by
 have hx:a ||| b < 2 ^ 63:=Nat.or_lt_two_pow (by omega) (by omega);show IntKind.i64.wrap ((BitVec.ofInt 64 (a:Int) ||| BitVec.ofInt 64 (b:Int)).toNat:Int)=_
 rw [BitVec.toNat_or,zLv a ha,zLv b hb,IntKind.wrap_i64];omega
theorem zHn (k:Nat) (hk:k<=32) (a y:Int) (ha:0<=a) (hx:a*(2 ^ k:Nat) < 9223372036854775808) (hy:0<=y) (Ha:y < (2 ^ k:Nat)) :
 bits .or .i64 (a*(2 ^ k:Nat)) y=a*(2 ^ k:Nat)+y:=by
 obtain ⟨n,rfl⟩:=Int.eq_ofNat_of_zero_le ha;obtain ⟨m,rfl⟩:=Int.eq_ofNat_of_zero_le hy;have hm:m < 2 ^ k:=by omega
 have e:((n:Int)*(2 ^ k:Nat))=((n*2 ^ k:Nat):Int):=by push_cast;rfl
 rw [e] at hx ⊢;have h1:n*2 ^ k < 9223372036854775808:=by omega
 have hs:=Nat.shiftLeft_add_eq_or_of_lt hm n;rw [Nat.shiftLeft_eq] at hs;have hp:2 ^ k<=2 ^ 32:=Nat.pow_le_pow_right (by omega) hk;rw [zPp _ _ h1 (by omega),<- hs];push_cast
 rfl
theorem zWl (a y:Int) (ha:0<=a) (hx:a < 16777216) (hy:0<=y) (Ha:y < 256):bits .or .i64 (a*256) y=a*256+y :=
 zHn 8 (by omega) a y ha (by omega) hy (by omega)
theorem zSz (a y:Int) (ha:0<=a) (hx:a < 16777216) (hy:0<=y) (Ha:y < 65536):bits .or .i64 (a*65536) y=a*65536+y :=
 zHn 16 (by omega) a y ha (by omega) hy (by omega)
theorem zTa (a y:Int) (ha:0<=a) (hx:a < 16777216) (hy:0<=y) (Ha:y < 16777216):bits .or .i64 (a*16777216) y=a*16777216+y :=
 zHn 24 (by omega) a y ha (by omega) hy (by omega)
theorem zQy (a b:Int) (ha:0<=a) (Ha:a < 256) (hb:0<=b) (Hb:b < 256):bits .or .i64 (a*16777216) (b*65536)=a*16777216+b*65536 :=
 zTa a _ ha (by omega) (by omega) (by omega)
theorem zQz (a b c:Int) (ha:0<=a) (Ha:a < 256) (hb:0<=b) (Hb:b < 256) (hc:0<=c) (Hc:c < 256) :
 bits .or .i64 (a*16777216+b*65536) (c*256)=a*16777216+b*65536+c*256:=by
 have:=zSz (a*256+b) (c*256) (by omega) (by omega) (by omega) (by omega);rw [show (a*256+b)*65536=a*16777216+b*65536 by omega] at this;exact this
theorem zRa (a b c d:Int) (ha:0<=a) (Ha:a < 256) (hb:0<=b) (Hb:b < 256) (hc:0<=c) (Hc:c < 256) (hd:0<=d) (Hd:d < 256) :
 bits .or .i64 (a*16777216+b*65536+c*256) d=a*16777216+b*65536+c*256+d:=by
 have:=zWl (a*65536+b*256+c) d (by omega) (by omega) (by omega) (by omega);rw [show (a*65536+b*256+c)*256=a*16777216+b*65536+c*256 by omega] at this;exact this
attribute [local go_sem] zGt zIj zFz
theorem zJa {n:Int} (h0:0<=n) (h1:n<=1073741824):strOfNums [n / 16777216,n / 65536 % 256,n / 256 % 256,n % 256]=Scu.numBytes n:=by
 unfold strOfNums Scu.numBytes;simp only [List.map_cons,List.map_nil,zVw]
 rw [zHw (n:=n / 16777216) (by omega) (by omega)]
theorem zG1 {P:Prop} (h:P:=by
 go_ret2
 exact ⟨zDa (zFf (zJa h0 h1)) rfl,(mG _ _).alloc (mC _) _⟩):P:=h
theorem zTb (n:Int) (w:World) :
 Calls Tryz.prog 43 #[.int .i64 n] w fun e w'=>e=.returned (.tuple #[.string (Scu.number n).1,.int .i64 (Scu.number n).2])/\Below w.heap.size w w':=by
 by_cases h:n < 0\/1073741824 < n
 ·have hs:Scu.number n=(Scu.str0,2):=if_pos h;rw [hs];go_enter Tryz.func43,Tryz.ntmps43
  go_wp2
  all_goals (go_ret2;exact ⟨rfl,mG _ _⟩)
 have hs:Scu.number n=(Scu.numBytes n,0):=if_neg h;rw [hs];have h0:0<=n:=by omega
 have h1:n<=1073741824:=by omega
 clear h;go_enter Tryz.func43,Tryz.ntmps43
 go_wp2
 exact zG1
theorem in_c (n lo hi:Int) (w:World) :
 Calls Tryz.prog 12 #[.int .i64 n,.int .i64 lo,.int .i64 hi] w fun e w'=>e=.returned (.bool (decide (lo<=n) && decide (n<=hi)))/\w=w':=by
 go_enter Tryz.func12,Tryz.ntmps12
 go_wp2
 all_goals (go_ret;refine ⟨zAb (zBa ?_),rfl⟩;simp;try omega)
theorem zKw (n:Int) (w:World) :
 Calls Tryz.prog 57 #[.int .i64 n] w fun e w'=>e=.returned (.tuple #[.string (Scu.number n).1,.int .i64 (Scu.number n).2])/\Below w.heap.size w w':=by
 by_cases h:n < 0\/1073741824 < n
 ·have hs:Scu.number n=(Scu.str0,2):=if_pos h;rw [hs];have hd:(decide (0<=n) && decide (n<=1073741824))=false:=by simp;omega
  go_enter Tryz.func57,Tryz.ntmps57
  go_wp2_with (go_at_call 12;refine (in_c _ _ _ _).mono ?_;rintro e w' ⟨rfl,rfl⟩)
  all_goals (go_ret2;exact ⟨rfl,mG _ _⟩)
 have hs:Scu.number n=(Scu.numBytes n,0):=if_neg h;rw [hs];have hd:(decide (0<=n) && decide (n<=1073741824))=true:=by simp;omega
 have h0:0<=n:=by omega
 have h1:n<=1073741824:=by omega
 clear h;go_enter Tryz.func57,Tryz.ntmps57
 go_wp2_with (go_at_call 12;refine (in_c _ _ _ _).mono ?_;rintro e w' ⟨rfl,rfl⟩)
 exact zG1
theorem zFj {s:ByteArray} (h:s.size<=255):strOfNums [(s.size:Int)] ++ s=Scu.textBytes s:=by
 unfold strOfNums Scu.textBytes;simp only [List.map_cons,List.map_nil]
 rw [zHw (n:=(s.size:Int)) (by omega) (by omega)]
theorem zDl (n:Int):(strOfNums [n]).size=1:=rfl
theorem zE1 {P:Prop} (h:P:=by
 go_wp2
 go_ret2
 exact ⟨zDa (zFf (zFj (by omega))) rfl,(mG _ _).alloc (mC _) _⟩):P:=h
theorem zYn (s:ByteArray) (w:World) :
 Calls Tryz.prog 44 #[.string s] w fun e w'=>e=.returned (.tuple #[.string (Scu.text s).1,.int .i64 (Scu.text s).2])/\Below w.heap.size w w':=by
 by_cases h:255 < s.size
 ·have hs:Scu.text s=(Scu.str0,1):=if_pos h;rw [hs];have h':(255:Int) < s.size:=by omega
  go_enter Tryz.func44,Tryz.ntmps44
  go_wp2
  all_goals (go_ret2;exact ⟨rfl,mG _ _⟩)
 have hs:Scu.text s=(Scu.textBytes s,0):=if_neg h;rw [hs];have h1:(s.size:Int)<=255:=by omega
 have h2:(strOfNums [(s.size:Int)]).size+s.size<=9223372036854775807:=by rw [zDl];omega
 have h3:=fun w=>run_string_add_sum (P:=Tryz.prog) (w:=w) (strOfNums [(s.size:Int)]) s h2
 clear h2;go_enter Tryz.func44,Tryz.ntmps44
 exact zE1
theorem zLw (s:ByteArray) (w:World) :
 Calls Tryz.prog 58 #[.string s] w fun e w'=>e=.returned (.tuple #[.string (Scu.text s).1,.int .i64 (Scu.text s).2])/\Below w.heap.size w w':=by
 by_cases h:255 < s.size
 ·have hs:Scu.text s=(Scu.str0,1):=if_pos h;rw [hs];have h':(255:Int) < s.size:=by omega
  go_enter Tryz.func58,Tryz.ntmps58
  go_wp2
  all_goals (go_ret2;exact ⟨rfl,mG _ _⟩)
 have hs:Scu.text s=(Scu.textBytes s,0):=if_neg h;rw [hs];have h1:(s.size:Int)<=255:=by omega
 have h2:(strOfNums [(s.size:Int)]).size+s.size<=9223372036854775807:=by rw [zDl];omega
 have h3:=fun w=>run_string_add_sum (P:=Tryz.prog) (w:=w) (strOfNums [(s.size:Int)]) s h2
 clear h2;go_enter Tryz.func58,Tryz.ntmps58
 exact zE1
theorem zD1 {P:Prop} (h:P:=by
 go_quiet (fail)
 go_wp2
 go_ret3
 exact ⟨rfl,below_drewN (mG _ _) _⟩):P:=h
theorem zHx (s:ByteArray) (w:World) :
 Calls Tryz.prog 73 #[.string s] w fun e w'=>e=.returned (.tuple #[.int .i64 (Scu.readNumber s).1,.string (Scu.readNumber s).2.1,.int .i64 (Scu.readNumber s).2.2])/\Below w.heap.size w w':=by
 by_cases h:s.size < 4
 ·have hs:Scu.readNumber s=(0,Scu.str0,5):=if_pos h;rw [hs];have h':(s.size:Int) < 4:=by omega
  go_enter Tryz.func73,Tryz.ntmps73
  go_wp2
  all_goals (go_ret3;exact ⟨rfl,mG _ _⟩)
 have h':(4:Int)<=s.size:=by omega
 have g0:(0:Int) < s.size:=by omega
 have g1:(1:Int) < s.size:=by omega
 have g2:(2:Int) < s.size:=by omega
 have g3:(3:Int) < s.size:=by omega
 obtain ⟨a0,a1⟩:=zAv s 0;obtain ⟨b0,b1⟩:=zAv s 1;obtain ⟨c0,c1⟩:=zAv s 2;obtain ⟨d0,d1⟩:=zAv s 3;have o3:=zQy _ _ a0 a1 b0 b1;have o2:=zQz _ _ _ a0 a1 b0 b1 c0 c1;have o1:=zRa _ _ _ _ a0 a1 b0 b1 c0 c1 d0 d1;by_cases hb:1073741824 < Scu.num4 s
 ·have hs:Scu.readNumber s=(0,Scu.str0,4):=by unfold Scu.readNumber;rw [if_neg h,if_pos hb]
  rw [hs];unfold Scu.num4 at hb;clear h;go_enter Tryz.func73,Tryz.ntmps73
  go_wp2
  exact zD1
 have hs:Scu.readNumber s=(Scu.num4 s,Scu.dropS s 4,0):=by unfold Scu.readNumber;rw [if_neg h,if_neg hb]
 rw [hs];unfold Scu.num4 at hb;have Ha:Scu.byteAt s 0*16777216+Scu.byteAt s 1*65536+Scu.byteAt s 2*256+Scu.byteAt s 3<=1073741824:=by omega
 clear h hb;go_enter Tryz.func73,Tryz.ntmps73
 go_wp2
 go_quiet (fail)
 go_wp2
 go_quiet (fail)
 go_wp2
 go_ret3
 exact ⟨rfl,below_drewN (below_drewN (mG _ _) _) _⟩
theorem zKb (s:ByteArray) (w:World) :
 Calls Tryz.prog 93 #[.string s] w fun e w'=>e=.returned (.tuple #[.int .i64 (Scu.readNumber s).1,.string (Scu.readNumber s).2.1,.int .i64 (Scu.readNumber s).2.2])/\Below w.heap.size w w':=by
 by_cases h:s.size < 4
 ·have hs:Scu.readNumber s=(0,Scu.str0,5):=if_pos h;rw [hs];have h':(s.size:Int) < 4:=by omega
  go_enter Tryz.func93,Tryz.ntmps93
  go_wp2
  all_goals (go_ret3;exact ⟨rfl,mG _ _⟩)
 have h':(4:Int)<=s.size:=by omega
 have g0:(0:Int) < s.size:=by omega
 have g1:(1:Int) < s.size:=by omega
 have g2:(2:Int) < s.size:=by omega
 have g3:(3:Int) < s.size:=by omega
 obtain ⟨a0,a1⟩:=zAv s 0;obtain ⟨b0,b1⟩:=zAv s 1;obtain ⟨c0,c1⟩:=zAv s 2;obtain ⟨d0,d1⟩:=zAv s 3;have hn:Scu.num4 s=256*(256*(256*Scu.byteAt s 0+Scu.byteAt s 1)+Scu.byteAt s 2)+Scu.byteAt s 3:=by unfold Scu.num4;omega
 by_cases hb:1073741824 < Scu.num4 s
 ·have hs:Scu.readNumber s=(0,Scu.str0,4):=by unfold Scu.readNumber;rw [if_neg h,if_pos hb]
  rw [hs];rw [hn] at hb;clear h hn;go_enter Tryz.func93,Tryz.ntmps93
  go_wp2
  go_rounds 5
  go_ret3
  exact ⟨rfl,mG _ _⟩
 have hs:Scu.readNumber s=(Scu.num4 s,Scu.dropS s 4,0):=by unfold Scu.readNumber;rw [if_neg h,if_neg hb]
 rw [hs,hn];rw [hn] at hb;have Ha:=Int.not_lt.1 hb;clear h hb hn;go_enter Tryz.func93,Tryz.ntmps93
 go_wp2
 go_rounds 5
 exact zD1
theorem zBe (s:ByteArray):s.toList=[]↔s.size=0:=by
 rw [ByteArray.toList_eq,<- List.length_eq_zero_iff,Array.length_toList];rfl
theorem zKc (s:ByteArray) (w:World) (hm:s.size<=maxLen) :
 Calls Tryz.prog 74 #[.string s] w fun e w'=>e=.returned (.tuple #[.string (Scu.readText s).1,.string (Scu.readText s).2.1,.int .i64 (Scu.readText s).2.2])/\Below w.heap.size w w':=by
 unfold maxLen at hm;have Ha:(s.size:Int)<=9223372036854775807:=by omega
 clear hm;by_cases h:s.size=0
 ·have hs:Scu.readText s=(Scu.str0,Scu.str0,5):=if_pos h;rw [hs];have h':s.toList=[]:=(zBe s).2 h;clear h hs;go_enter Tryz.func74,Tryz.ntmps74
  go_wp2
  all_goals (go_ret3;exact ⟨rfl,mG _ _⟩)
 have h':¬ s.toList=[]:=fun e=>h ((zBe s).1 e)
 have Hb:s.toList.isEmpty=false:=by simpa using h'
 have g0:(0:Int) < s.size:=by omega
 obtain ⟨a0,a1⟩:=zAv s 0;by_cases hb:(s.size:Int) - 1 < Scu.byteAt s 0
 ·have hs:Scu.readText s=(Scu.str0,Scu.str0,5):=by unfold Scu.readText;rw [if_neg h,if_pos hb]
  rw [hs];clear h hs;go_enter Tryz.func74,Tryz.ntmps74
  go_wp2
  all_goals (go_ret3;exact ⟨rfl,mG _ _⟩)
 have hs:Scu.readText s=(s.extract 1 (1+Scu.byteAt s 0).toNat,Scu.dropS s (1+Scu.byteAt s 0).toNat,0):=by unfold Scu.readText;rw [if_neg h,if_neg hb]
 rw [hs];have Hc:=Int.not_lt.1 hb;clear h hb hs;go_enter Tryz.func74,Tryz.ntmps74
 go_wp2
 exact zD1
theorem zOj (s:ByteArray) (w:World) (hm:s.size<=maxLen) :
 Calls Tryz.prog 94 #[.string s] w fun e w'=>e=.returned (.tuple #[.string (Scu.readText s).1,.string (Scu.readText s).2.1,.int .i64 (Scu.readText s).2.2])/\Below w.heap.size w w':=by
 unfold maxLen at hm;have Hc:(s.size:Int)<=9223372036854775807:=by omega
 clear hm;by_cases h:s.size=0
 ·have hs:Scu.readText s=(Scu.str0,Scu.str0,5):=if_pos h;rw [hs];have h':(s.size:Int)=0:=by omega
  have hd:decide (s.size=0)=true:=by simpa using h
  have Ha:((s.size:Int) == 0)=true:=by simpa using h
  clear h hs;go_enter Tryz.func94,Tryz.ntmps94
  go_wp2
  all_goals (go_ret3;exact ⟨rfl,mG _ _⟩)
 have h':¬ s.size=0:=h;have Ha:((s.size:Int) == 0)=false:=by simpa using h
 have g0:(0:Int) < s.size:=by omega
 obtain ⟨a0,a1⟩:=zAv s 0;by_cases hb:(s.size:Int) - 1 < Scu.byteAt s 0
 ·have hs:Scu.readText s=(Scu.str0,Scu.str0,5):=by unfold Scu.readText;rw [if_neg h,if_pos hb]
  rw [hs];have Hb:(s.size:Int) < 1+Scu.byteAt s 0:=by omega
  clear h hs hb;go_enter Tryz.func94,Tryz.ntmps94
  go_wp2
  all_goals (go_ret3;exact ⟨rfl,mG _ _⟩)
 have hs:Scu.readText s=(s.extract 1 (1+Scu.byteAt s 0).toNat,Scu.dropS s (1+Scu.byteAt s 0).toNat,0):=by unfold Scu.readText;rw [if_neg h,if_neg hb]
 rw [hs];have Hb:1+Scu.byteAt s 0<=(s.size:Int):=by omega
 clear h hb hs;go_enter Tryz.func94,Tryz.ntmps94
 go_wp2
 exact zD1
theorem zEv (s:ByteArray) (k:Nat) (h:k < s.size):Scu.sealXY (s.data.toList.take (k+1)) =
 (((Scu.sealXY (s.data.toList.take k)).1+Scu.byteAt s k) % 65521,((Scu.sealXY (s.data.toList.take k)).2+((Scu.sealXY (s.data.toList.take k)).1+Scu.byteAt s k) % 65521) % 65521):=by
 have hk:k < s.data.toList.length:=by simpa using h
 rw [List.take_succ_eq_append_getElem hk];unfold Scu.sealXY;rw [List.foldl_append];have hb:Scu.byteAt s k=(s.data.toList[k].toNat:Int):=by
  unfold Scu.byteAt;rw [mI,mH hk];rfl
 rw [hb];rfl
theorem zKd (s:ByteArray):strOfNums [(Scu.sealXY s.data.toList).2 / 256,(Scu.sealXY s.data.toList).2 % 256,(Scu.sealXY s.data.toList).1 / 256,(Scu.sealXY s.data.toList).1 % 256]=Scu.sealS s:=by
 obtain ⟨x0,x1,y0,y1⟩:=Scu.sealXY_bd s.data.toList;unfold strOfNums Scu.sealS;simp only [List.map_cons,List.map_nil,zVw]
 rw [zHw (n:=(Scu.sealXY s.data.toList).2 / 256) (by omega) (by omega),zHw (n:=(Scu.sealXY s.data.toList).1 / 256) (by omega) (by omega)]
theorem zB1 {P:Prop} (h:P:=by
 obtain ⟨k,hk,rfl,rfl,rfl⟩:=hrel;obtain ⟨x0,x1,y0,y1⟩:=Scu.sealXY_bd (s.data.toList.take k);obtain ⟨c0,c1⟩:=zAv s k;by_cases Ha:k < s.size
 ·have Hb:(k:Int) < s.size:=by omega
  go_wp2
  refine ⟨⟨k+1,Ha,rfl,?_,?_⟩,?_⟩
  ·rw [zEv s k Ha]
  ·rw [zEv s k Ha]
  simp only [intOf];omega
 obtain rfl:k=s.size:=by omega
 have ht:s.data.toList.take s.size=s.data.toList:=List.take_of_length_le (by simp);rw [ht] at x0 x1 y0 y1 ⊢;go_wp2
 go_ret
 exact ⟨zAb (zFf (zKd s)),(mG _ _).alloc (mC _) _⟩):P:=h
theorem zOk (s:ByteArray) (w:World) (hm:s.size<=maxLen) :
 Calls Tryz.prog 45 #[.string s] w fun e w'=>e=.returned (.string (Scu.sealS s))/\Below w.heap.size w w':=by
 unfold maxLen at hm;have Hc:(s.size:Int)<=9223372036854775807:=by omega
 clear hm;go_enter Tryz.func45,Tryz.ntmps45
 go_wp2
 go_loop [3,4,8] (fun x y i=>∃ k:Nat,k<=s.size/\i=.int .i64 k/\x=.int .i64 (Scu.sealXY (s.data.toList.take k)).1/\y=.int .i64 (Scu.sealXY (s.data.toList.take k)).2) (fun _ _ i=>s.size - (intOf i).toNat)
 case atStart=>exact ⟨0,mE _,rfl,rfl,rfl⟩
 case round =>
  exact zB1
theorem zIk (s:ByteArray) (w:World) (hm:s.size<=maxLen) :
 Calls Tryz.prog 59 #[.string s] w fun e w'=>e=.returned (.string (Scu.sealS s))/\Below w.heap.size w w':=by
 unfold maxLen at hm;have Hc:(s.size:Int)<=9223372036854775807:=by omega
 clear hm;go_enter Tryz.func59,Tryz.ntmps59
 go_wp2
 go_loop [3,4,5] (fun x y i=>∃ k:Nat,k<=s.size/\i=.int .i64 k/\x=.int .i64 (Scu.sealXY (s.data.toList.take k)).1/\y=.int .i64 (Scu.sealXY (s.data.toList.take k)).2) (fun _ _ i=>s.size - (intOf i).toNat)
 case atStart=>exact ⟨0,mE _,rfl,rfl,rfl⟩
 case round =>
  exact zB1
attribute [local go_sem] zGt zIj zFz
theorem zGu (o:Scu.Op) (w:World) :
 Calls Tryz.prog 47 #[.agg #[.int .i64 o.kind,.int .i64 o.at_,.int .i64 o.snap,.string o.data]] w fun e w' =>
  e=.returned (.int .i64 (Scu.opFault o))/\Below w.heap.size w w':=by
 obtain ⟨k,a,n,d⟩:=o;have hd:=zBe d;go_enter Tryz.func47,Tryz.ntmps47
 go_wp2
 all_goals (go_ret;refine ⟨zAb (zAd ?_),(mG _ _).alloc (mC _) _⟩)
 all_goals (try simp only [bne_iff_ne,ne_eq,bne_eq_false_iff_eq,Bool.not_eq_true',Bool.not_eq_false',List.isEmpty_iff,List.isEmpty_eq_false_iff,hd] at *)
 all_goals (unfold Scu.opFault;simp only [];repeat' split)
 all_goals first | rfl | omega
theorem zGv (o:Scu.Op) (w:World) :
 Calls Tryz.prog 32 #[.agg #[.int .i64 o.kind,.int .i64 o.at_,.int .i64 o.snap,.string o.data]] w fun e w' =>
  e=.returned (.int .i64 (Scu.opFault o))/\Below w.heap.size w w':=by
 obtain ⟨k,a,n,d⟩:=o;have hd:=mA (zBe d);have hk:(k < 1\/4 < k)\/k=1\/k=2\/k=3\/k=4:=by omega
 rcases hk with hk | hk | hk | hk | hk <;> (try subst hk);all_goals
  go_enter Tryz.func32,Tryz.ntmps32
  go_wp2_with (go_at_call 12;refine (in_c _ _ _ _).mono ?_;rintro e w' ⟨rfl,rfl⟩)
 all_goals (go_ret;refine ⟨zAb (zAd ?_),(mG _ _).alloc (mC _) _⟩)
 all_goals have Ha:=hd.out
 all_goals (try simp only [bne_iff_ne,ne_eq,bne_eq_false_iff_eq,Bool.not_eq_true',Bool.not_eq_false',List.isEmpty_iff,List.isEmpty_eq_false_iff,Ha,decide_eq_true_eq,decide_eq_false_iff_not] at *)
 all_goals (unfold Scu.opFault;simp only [];repeat' split)
 all_goals first | rfl | omega | (exfalso;simp_all;done)
theorem zF1 {P:Prop} (h:P:=by
 go_wp2
 go_ret
 exact ⟨rfl,((mG _ _).alloc (mC _) _).trans (hb.mono (by simp))⟩):P:=h
theorem zEg (r:Scu.Request) (w:World) :
 Calls Tryz.prog 75 #[.agg #[.int .i64 r.client,.int .i64 r.num,.int .i64 r.op.kind,.int .i64 r.op.at_,.int .i64 r.op.snap,.string r.op.data]] w fun e w' =>
  e=.returned (.int .i64 (Scu.reqFault r))/\Below w.heap.size w w':=by
 by_cases h:r.client < 1\/4 < r.client\/r.num < 1\/1048576 < r.num
 ·have hs:Scu.reqFault r=2:=if_pos h;rw [hs];go_enter Tryz.func75,Tryz.ntmps75
  go_wp2_with fail
  all_goals (go_ret;exact ⟨rfl,(mG _ _).alloc (mC _) _⟩)
 have hs:Scu.reqFault r=Scu.opFault r.op:=if_neg h;rw [hs];have h1:1<=r.client:=by omega
 have h2:r.client<=4:=by omega
 have h3:1<=r.num:=by omega
 have h4:r.num<=1048576:=by omega
 clear h hs;go_enter Tryz.func75,Tryz.ntmps75
 go_wp2_with fail
 refine (zGu _ _).mono ?_;rintro e w' ⟨rfl,hb⟩;exact zF1
theorem zEh (r:Scu.Request) (w:World) :
 Calls Tryz.prog 61 #[.agg #[.int .i64 r.client,.int .i64 r.num,.int .i64 r.op.kind,.int .i64 r.op.at_,.int .i64 r.op.snap,.string r.op.data]] w fun e w' =>
  e=.returned (.int .i64 (Scu.reqFault r))/\Below w.heap.size w w':=by
 by_cases h:r.client < 1\/4 < r.client\/r.num < 1\/1048576 < r.num
 ·have hs:Scu.reqFault r=2:=if_pos h;rw [hs];clear hs;go_enter Tryz.func61,Tryz.ntmps61
  go_wp2_with (go_at_call 12;refine (in_c _ _ _ _).mono ?_;rintro e w' ⟨rfl,rfl⟩)
  all_goals first
   | (go_ret;exact ⟨rfl,(mG _ _).alloc (mC _) _⟩)
   | (exfalso;simp only [Bool.not_eq_false',decide_eq_true_eq] at *;omega)
 have hs:Scu.reqFault r=Scu.opFault r.op:=if_neg h;rw [hs];have h1:1<=r.client:=by omega
 have h2:r.client<=4:=by omega
 have h3:1<=r.num:=by omega
 have h4:r.num<=1048576:=by omega
 clear h hs;go_enter Tryz.func61,Tryz.ntmps61
 go_wp2_with (go_at_call 12;refine (in_c _ _ _ _).mono ?_;rintro e w' ⟨rfl,rfl⟩)
 refine (zGv _ _).mono ?_;rintro e w' ⟨rfl,hb⟩;exact zF1
theorem mem_ready {md:Region.Mode} {ops:Array Oper} {listed:Array Bool} {i:Nat} (h:i ∈ Region.ready md ops listed) :
 i < ops.size/\listed.getD i true=false/\((ops[i]?).map (·.after.all fun e=>!Region.binds md e || listed.getD e.on false)).getD false=true:=by
 unfold Region.ready at h;rw [List.mem_filter] at h;obtain ⟨h1,h2⟩:=h;simp only [Bool.and_eq_true,Bool.not_eq_true'] at h2
 exact ⟨by simpa using h1,h2.1,h2.2⟩
def zNg (listed:Array Bool):Nat:=listed.countP (!·)
theorem zWm {listed:Array Bool} {i:Nat} (h:listed.getD i true=false):∃ hi:i < listed.size,listed[i]=false:=by
 rcases Nat.lt_or_ge i listed.size with Ha | Hb
 ·exact ⟨Ha,by rw [<- h];simp [Array.getD,Ha]⟩
 rw [Array.getD_eq_getD_getElem?,Array.getElem?_eq_none Hb] at h;cases h
theorem zOl {listed:Array Bool} {i:Nat} (h:listed.getD i true=false):zNg (listed.setIfInBounds i true)+1<=zNg listed:=by
 obtain ⟨hi,hf⟩:=zWm h;unfold zNg;rw [Array.setIfInBounds_def,dif_pos hi,Array.countP_set];have:0 < listed.countP (!·):=by
  rw [Array.countP_pos_iff];exact ⟨false,by rw [<- hf];exact Array.getElem_mem hi,rfl⟩
 rw [hf];simp
 omega
theorem zRb {md:Region.Mode} {ops:Array Oper} {listed:Array Bool} (h:zNg listed=0):Region.ready md ops listed=[]:=by
 rw [List.eq_nil_iff_forall_not_mem];intro i hi;have:=zOl (mem_ready hi).2.1;omega
section
variable {P:Program} {ops:Array Oper} {Q:Exit->Act->World->Prop} {md:Region.Mode}
theorem zLx (I:Array Bool->Act->World->Prop)
 (Ha:∀ listed a w i,I listed a w->i ∈ Region.ready md ops listed->wpOp P ops Q i (fun a' w'=>I (listed.setIfInBounds i true) a' w') a w)
 (Hb:∀ listed a w,I listed a w->Region.ready md ops listed=[]->Q .normal a w) :
 ∀ fuel listed a w,zNg listed<=fuel->I listed a w->wpAny P md ops Q fuel listed a w
 | 0,listed,a,w,hl,hI=>by
   have hr:=zRb (md:=md) (ops:=ops) (show zNg listed=0 by omega);exact ⟨hr,Hb listed a w hI hr⟩
 | fuel+1,listed,a,w,hl,hI=>by
   refine ⟨Hb listed a w hI,fun i hi=>?_⟩;have Hc:=zOl (mem_ready hi).2.1;exact wpOp_mono (fun a' w' h=>zLx I Ha Hb fuel _ a' w' (by omega) h) (Ha listed a w i hI hi)
theorem zKx {id:Nat} {a:Act} {w:World} (hm:P.follows .mixedOrders=true) (I:Array Bool->Act->World->Prop)
 (h0:I (Array.replicate ops.size false) a { w with drawn:=w.drawn+1 })
 (Ha:∀ listed a w i,I listed a w->i ∈ Region.ready .any ops listed->wpOp P ops Q i (fun a' w'=>I (listed.setIfInBounds i true) a' w') a w)
 (Hb:∀ listed a w,I listed a w->Region.ready .any ops listed=[]->Q .normal a w):(Code.region id ops true).wp P Q a w :=
 wp_region_any hm (zLx I Ha Hb _ _ _ _ (by unfold zNg;simp [Array.countP_replicate]) h0)
theorem zEi {i:Nat} {o:Oper} {K:Act->World->Prop} {a:Act} {w:World} (hi:ops[i]? = some o) (hg:o.guard=none) (h:o.wp P a w K Q):wpOp P ops Q i K a w:=by
 unfold wpOp;rw [hi];have hw:Region.wanted o (yielded ops a.tmps)=true:=by simp [Region.wanted,hg]
 simp only [hw,if_true]
 exact .inl h
end
def Dn (listed:Array Bool) (k:Nat):Prop:=listed.getD k false=true
theorem zYo {listed:Array Bool} {i k:Nat} (h:Dn (listed.setIfInBounds i true) k):k=i\/Dn listed k:=by
 unfold Dn at *;by_cases e:k=i
 ·exact .inl e
 refine .inr ?_;rw [Array.getD_eq_getD_getElem?,Array.getElem?_setIfInBounds_ne (fun h=>e h.symm),<- Array.getD_eq_getD_getElem?] at h;exact h
theorem zAj {listed:Array Bool} {i k:Nat} (h:Dn (listed.setIfInBounds i true) k) (Ha:k≠i):Dn listed k:=(zYo h).resolve_left Ha
theorem zEw {n k:Nat} (h:Dn (Array.replicate n false) k):False:=by
 unfold Dn at h;rw [Array.getD_eq_getD_getElem?] at h;by_cases hk:k < n
 ·simp [hk] at h
 rw [Array.getElem?_eq_none (by simpa using hk)] at h;cases h
theorem zTc {ops:Array Oper} {listed:Array Bool} (hb:(List.range ops.size).all (fun i=>((ops[i]?).map fun o=>o.after.all fun e=>decide (e.on < i)).getD false)=true)
 (hl:listed.size=ops.size) (h:Region.ready .any ops listed=[]):∀ k,k < ops.size->Dn listed k:=by
 intro k;induction k using Nat.strongRecOn with
 | ind k ih =>
   intro hk;unfold Dn;cases hd:listed.getD k false with
   | true=>rfl
   | false =>
     exfalso
     have Hb:listed.getD k true=false:=by
      rw [Array.getD_eq_getD_getElem?] at hd ⊢;rw [Array.getElem?_eq_getElem (by omega)] at hd ⊢;exact hd
     have Ha:=List.all_eq_true.1 hb k (by simpa using hk);rw [Array.getElem?_eq_getElem hk] at Ha;simp only [Option.map_some,Option.getD_some,Array.all_eq_true',decide_eq_true_eq] at Ha
     have:k ∈ Region.ready .any ops listed:=by
      unfold Region.ready;rw [List.mem_filter];refine ⟨by simpa using hk,?_⟩;rw [Hb,Array.getElem?_eq_getElem hk];simp only [Bool.not_false,Bool.true_and,Option.map_some,Option.getD_some,Array.all_eq_true']
      intro e he;have Hc:=Ha e he;have:=ih e.on Hc (by omega);unfold Dn at this;rw [this];simp
     rw [h] at this;cases this
open Go.RowKit
section
variable {P:Program} {ops:Array Oper} {Q:Exit->Act->World->Prop} {md:Region.Mode} {S:World->Prop} {t:Nat}
def wpAnyE (P:Program) (md:Region.Mode) (ops:Array Oper) (Q:Exit->Act->World->Prop) (S:World->Prop) (t:Nat):Nat->Array Bool->Act->World->Prop
 | 0,listed,a,w=>Region.ready md ops listed=[]/\Q .normal a w
 | fuel+1,listed,a,w =>
   (Region.ready md ops listed=[]->Q .normal a w) /\
   ∀ i ∈ Region.ready md ops listed,wpOp P ops Q i (fun a' w'=>(i=t\/S w')/\wpAnyE P md ops Q S t fuel (listed.setIfInBounds i true) a' w') a w
theorem zKe:∀ (fuel:Nat) (listed:Array Bool) (a:Act) (w:World),wpAnyE P md ops Q S t fuel listed a w->wpAny P md ops Q fuel listed a w
 | 0,_,_,_,h=>h
 | fuel+1,_,_,_,h=>⟨h.1,fun i hi=>wpOp_mono (fun a' w' h'=>zKe fuel _ a' w' h'.2) (h.2 i hi)⟩
def ShutL (md:Region.Mode) (ops:Array Oper) (l:Array Bool):Prop:=∀ (j:Nat) (oj:Oper),ops[j]? = some oj->l.getD j false=true->∀ e ∈ oj.after,Region.binds md e=true->l.getD e.on false=true
theorem ShutL.set {l:Array Bool} (h:ShutL md ops l) {i:Nat} (hi:i ∈ Region.ready md ops l):ShutL md ops (l.setIfInBounds i true):=by
 intro j oj Hb hl e he hb;obtain ⟨_,oi,Hd,Ha⟩:=Go.mem_ready.1 hi;by_cases Hc:i=j
 ·subst Hc;have:oj=oi:=Option.some.inj (Hb.symm.trans Hd);subst this;exact Go.getD_set_true (Ha e he hb)
 rw [Go.getD_set_ne false Hc] at hl;exact Go.getD_set_true (h j oj Hb hl e he hb)
def reachB (md:Region.Mode) (ops:Array Oper) (i:Nat):Nat->Nat->Bool
 | 0,_=>false
 | f+1,j=>match ops[j]? with
   | some o=>o.after.any fun e=>Region.binds md e && (e.on == i || reachB md ops i f e.on)
   | none=>false
theorem zHy {i:Nat} {l:Array Bool} (h:ShutL md ops l):∀ (f j:Nat),reachB md ops i f j=true->(∀ oj,ops[j]? = some oj->∀ e ∈ oj.after,Region.binds md e=true->l.getD e.on false=true)->l.getD i false=true
 | 0,_,hr,_=>by cases hr
 | f+1,j,hr,Ha=>by
   unfold reachB at hr;cases ho:ops[j]? with
   | none=>rw [ho] at hr;cases hr
   | some o =>
     rw [ho] at hr;obtain ⟨e,he,hb⟩:=Array.any_eq_true'.1 hr;simp only [Bool.and_eq_true,Bool.or_eq_true,beq_iff_eq] at hb
     have hl:=Ha o ho e he hb.1;rcases hb.2 with hb | hb
     ·rw [<- hb];exact hl
     ·exact zHy h f e.on hb fun oj Hb e' Hc Hd=>h e.on oj Hb hl e' Hc Hd
theorem zLy {i f:Nat} {l:Array Bool} (h:ShutL md ops l) (hr:reachB md ops i f t=true) (hi:l.getD i true=false):t ∉ Region.ready md ops l:=fun ht=>by
 obtain ⟨_,o,ho,Ha⟩:=Go.mem_ready.1 ht;have:=zHy h f t hr (fun oj Hb e he hb=>by
  have:oj=o:=Option.some.inj (Hb.symm.trans ho);subst this;exact Ha e he hb)
 rcases Nat.lt_or_ge i l.size with h' | h'
 ·simp [h'] at hi this;rw [hi] at this;cases this
 simp [Array.getElem?_eq_none h'] at hi
theorem zA1 {P:Prop} (h:P:=by
 obtain ⟨He,oj,Hg,Hh⟩:=Go.mem_ready.1 hj;have Hi:∀ e ∈ oj.after,Region.binds md e=true->e.on≠i:=fun e he hb Hn=>by
  have h1:=Hh e he hb;rw [Hn] at h1;rcases Nat.lt_or_ge i listed.size with h' | h'
  ·simp [h'] at h0 h1;rw [h0] at h1;cases h1
  simp [Array.getElem?_eq_none h'] at h1
 have h2:=wpOp_putIf Hg (Hb j oj Hg Ha He Hi) (fun cs b=>Hd i oi cs b hi) (fun cs b=>Hd j oj cs b Hg) hQ hy h1;have Hc:∀ k ok,ops[k]? = some ok->k≠i->(listed.setIfInBounds j true).getD k true=false ->
  (∀ e ∈ ok.after,Region.binds md e=true->e.on≠i)->oi.apart ops ok=true:=fun k ok hk Ho Hj Hp=>by
  refine Hb k ok hk Ho ?_ Hp;by_cases Hk:j=k
  ·subst Hk;exact He
  rw [Go.getD_set_ne true Hk] at Hj;exact Hj
 refine wpOp_mono (fun a' w' h3=>?_) h2;obtain ⟨h4,h5,h6⟩:=h3;have h5:=h5.resolve_left Hm;refine ⟨.inr h5,ih (listed.setIfInBounds j true) a' w' Hc (Go.ready_mono hr (Ne.symm Ha)) (Hf.set hj) h4 h5 ?_⟩;rw [Array.setIfInBounds_comm _ _ Ha];exact h6):P:=h
theorem zC1 {P:Prop} (h:P:=by
 intro listed a w _ hr Hf hy hS H;refine ⟨fun h=>(by rw [h] at hr;cases hr),fun j hj=>?_⟩;by_cases Ha:j=i
 ·subst Ha;exact hy.wpOp hi hS ⟨.inr hS,H⟩
 ·have:=Go.ready_mono hj Ha;rw [H.1] at this;cases this):P:=h
theorem zLz {i f:Nat} {oi:Oper} {v:Value} (hi:ops[i]? = some oi) (Hd:∀ (j:Nat) (o:Oper) cs b,ops[j]? = some o->o.op≠.select cs b)
 (hQ:∀ c a w,Q (.panic c) (a.put oi.dst v) w->Q (.panic c) a w) (Hl:reachB md ops i f t=true):∀ (fuel:Nat) (listed:Array Bool) (a:Act) (w:World),
  (∀ j oj,ops[j]? = some oj->j≠i->listed.getD j true=false->(∀ e ∈ oj.after,Region.binds md e=true->e.on≠i)->oi.apart ops oj=true) ->
  i ∈ Region.ready md ops listed->ShutL md ops listed->YieldsIf P ops S oi v a->S w ->
  wpAnyE P md ops Q S t fuel (listed.setIfInBounds i true) (a.put oi.dst v) w->wpAnyE P md ops Q S t (fuel+1) listed a w:=by
 intro fuel;induction fuel with
 | zero =>
   exact zC1
 | succ fuel ih =>
   intro listed a w Hb hr Hf hy hS H;have h0:listed.getD i true=false:=(Go.mem_ready.1 hr).1;refine ⟨fun h=>(by rw [h] at hr;cases hr),fun j hj=>?_⟩;by_cases Ha:j=i
   ·subst Ha;exact hy.wpOp hi hS ⟨.inr hS,H⟩
   ·have h1:=H.2 j (Go.ready_mono hj Ha);have Hm:j≠t:=fun e=>zLy Hf Hl h0 (e ▸ hj)
    exact zA1
theorem zAo {i:Nat} (f:Nat) {oi:Oper} {v:Value} {fuel:Nat} {listed:Array Bool} {a:Act} {w:World} (hi:ops[i]? = some oi)
 (hs:Region.noSelect ops=true) (hf:Region.free md ops listed i=true) (hr:(Region.ready md ops listed).contains i=true) (Hc:reachB md ops i f t=true)
 (hQ:∀ c a w,Q (.panic c) (a.put oi.dst v) w->Q (.panic c) a w) (hy:YieldsIf P ops S oi v a) (Ha:ShutL md ops listed) (hS:S w)
 (h:ShutL md ops (listed.setIfInBounds i true)->wpAnyE P md ops Q S t fuel (listed.setIfInBounds i true) (a.put oi.dst v) w):wpAnyE P md ops Q S t (fuel+1) listed a w :=
 have Hb:i ∈ Region.ready md ops listed:=by simpa using hr
 zLz hi (Region.noSelect_spec hs) hQ Hc fuel listed a w (Region.free_spec hi hf) Hb Ha hy hS (h (Ha.set Hb))
theorem zPq {rs:List Nat} {fuel:Nat} {listed:Array Bool} {a:Act} {w:World} (hr:Region.ready md ops listed=rs) (Ha:rs≠[])
 (h:∀ i ∈ rs,wpOp P ops Q i (fun a' w'=>(i=t\/S w')/\wpAnyE P md ops Q S t fuel (listed.setIfInBounds i true) a' w') a w):wpAnyE P md ops Q S t (fuel+1) listed a w :=
 ⟨fun h0=>absurd (hr ▸ h0) Ha,hr ▸ h⟩
theorem zDm {listed:Array Bool} {a:Act} {w:World} (hr:Region.ready md ops listed=[]) (h:Q .normal a w):∀ fuel,wpAnyE P md ops Q S t fuel listed a w
 | 0=>⟨hr,h⟩
 | _+1=>⟨fun _=>h,by rw [hr];simp⟩
theorem zDn {id:Nat} {a:Act} {w:World} (S:World->Prop) (t:Nat) (hm:P.follows .mixedOrders=true)
 (h:ShutL .any ops (Array.replicate ops.size false)->wpAnyE P .any ops Q S t ops.size (Array.replicate ops.size false) a { w with drawn:=w.drawn+1 }):(Code.region id ops true).wp P Q a w :=
 wp_region_any hm (zKe _ _ _ _ (h fun j oj _ hl=>by
  exfalso
  rw [Array.getD_eq_getD_getElem?] at hl;by_cases hk:j < ops.size
  ·simp [hk] at hl
  rw [Array.getElem?_eq_none (by simpa using hk)] at hl;cases hl))
end
open Go.RowKit
section
variable {P:Program} {ops:Array Oper} {Q:Exit->Act->World->Prop} {md:Region.Mode} {S:World->Prop} {T:List Nat}
def wpAnyF (P:Program) (md:Region.Mode) (ops:Array Oper) (Q:Exit->Act->World->Prop) (S:World->Prop) (T:List Nat):Nat->Array Bool->Act->World->Prop
 | 0,listed,a,w=>Region.ready md ops listed=[]/\Q .normal a w
 | fuel+1,listed,a,w =>
   (Region.ready md ops listed=[]->Q .normal a w) /\
   ∀ i ∈ Region.ready md ops listed,wpOp P ops Q i (fun a' w'=>(i ∈ T\/S w')/\wpAnyF P md ops Q S T fuel (listed.setIfInBounds i true) a' w') a w
theorem zKf:∀ (fuel:Nat) (listed:Array Bool) (a:Act) (w:World),wpAnyF P md ops Q S T fuel listed a w->wpAny P md ops Q fuel listed a w
 | 0,_,_,_,h=>h
 | fuel+1,_,_,_,h=>⟨h.1,fun i hi=>wpOp_mono (fun a' w' h'=>zKf fuel _ a' w' h'.2) (h.2 i hi)⟩
theorem zMa {i f:Nat} {oi:Oper} {v:Value} (hi:ops[i]? = some oi) (Hd:∀ (j:Nat) (o:Oper) cs b,ops[j]? = some o->o.op≠.select cs b)
 (hQ:∀ c a w,Q (.panic c) (a.put oi.dst v) w->Q (.panic c) a w) (Hl:(T.all fun t=>reachB md ops i f t)=true):∀ (fuel:Nat) (listed:Array Bool) (a:Act) (w:World),
  (∀ j oj,ops[j]? = some oj->j≠i->listed.getD j true=false->(∀ e ∈ oj.after,Region.binds md e=true->e.on≠i)->oi.apart ops oj=true) ->
  i ∈ Region.ready md ops listed->ShutL md ops listed->YieldsIf P ops S oi v a->S w ->
  wpAnyF P md ops Q S T fuel (listed.setIfInBounds i true) (a.put oi.dst v) w->wpAnyF P md ops Q S T (fuel+1) listed a w:=by
 intro fuel;induction fuel with
 | zero =>
   exact zC1
 | succ fuel ih =>
   intro listed a w Hb hr Hf hy hS H;have h0:listed.getD i true=false:=(Go.mem_ready.1 hr).1;refine ⟨fun h=>(by rw [h] at hr;cases hr),fun j hj=>?_⟩;by_cases Ha:j=i
   ·subst Ha;exact hy.wpOp hi hS ⟨.inr hS,H⟩
   ·have h1:=H.2 j (Go.ready_mono hj Ha);have Hm:j ∉ T:=fun e=>zLy Hf (List.all_eq_true.1 Hl j e) h0 hj
    exact zA1
theorem zNh {i:Nat} (f:Nat) {oi:Oper} {v:Value} {fuel:Nat} {listed:Array Bool} {a:Act} {w:World} (hi:ops[i]? = some oi)
 (hs:Region.noSelect ops=true) (hf:Region.free md ops listed i=true) (hr:(Region.ready md ops listed).contains i=true) (Hc:(T.all fun t=>reachB md ops i f t)=true)
 (hQ:∀ c a w,Q (.panic c) (a.put oi.dst v) w->Q (.panic c) a w) (hy:YieldsIf P ops S oi v a) (Ha:ShutL md ops listed) (hS:S w)
 (h:ShutL md ops (listed.setIfInBounds i true)->wpAnyF P md ops Q S T fuel (listed.setIfInBounds i true) (a.put oi.dst v) w):wpAnyF P md ops Q S T (fuel+1) listed a w :=
 have Hb:i ∈ Region.ready md ops listed:=by simpa using hr
 zMa hi (Region.noSelect_spec hs) hQ Hc fuel listed a w (Region.free_spec hi hf) Hb Ha hy hS (h (Ha.set Hb))
theorem zKg {rs:List Nat} {fuel:Nat} {listed:Array Bool} {a:Act} {w:World} (hr:Region.ready md ops listed=rs) (Ha:rs≠[])
 (h:∀ i ∈ rs,wpOp P ops Q i (fun a' w'=>(i ∈ T\/S w')/\wpAnyF P md ops Q S T fuel (listed.setIfInBounds i true) a' w') a w):wpAnyF P md ops Q S T (fuel+1) listed a w :=
 ⟨fun h0=>absurd (hr ▸ h0) Ha,hr ▸ h⟩
theorem zAe {listed:Array Bool} {a:Act} {w:World} (hr:Region.ready md ops listed=[]) (h:Q .normal a w):∀ fuel,wpAnyF P md ops Q S T fuel listed a w
 | 0=>⟨hr,h⟩
 | _+1=>⟨fun _=>h,by rw [hr];simp⟩
theorem zNi {id:Nat} {a:Act} {w:World} (S:World->Prop) (T:List Nat) (hm:P.follows .mixedOrders=true)
 (h:ShutL .any ops (Array.replicate ops.size false)->wpAnyF P .any ops Q S T ops.size (Array.replicate ops.size false) a { w with drawn:=w.drawn+1 }):(Code.region id ops true).wp P Q a w :=
 wp_region_any hm (zKf _ _ _ _ (h fun j oj _ hl=>by
  exfalso
  rw [Array.getD_eq_getD_getElem?] at hl;by_cases hk:j < ops.size
  ·simp [hk] at hl
  rw [Array.getElem?_eq_none (by simpa using hk)] at hl;cases hl))
end
open Go.RowKit
section
variable {P : Program} {ops : Array Oper} {Q : Exit -> Act -> World -> Prop} {md : Region.Mode} {S : World -> Prop} {t fuel i : Nat} {is : List Nat} {oi : Oper} {v : Value} {listed : Array Bool} {a : Act} {w : World} {K : Act -> World -> Prop}
theorem tkH (i : Nat) (hi : ops.toList[i]? = some oi) (hb : (Region.noSelect ops && Region.free md ops listed i && (Region.ready md ops listed).contains i) = true)
    (hQ : ∀ c a w, Q (.panic c) (a.put oi.dst v) w -> Q (.panic c) a w) (hy : YieldsIf P ops S oi v a) (hS : S w)
    (h : wpAnyH P md ops Q S fuel (listed.setIfInBounds i true) (a.put oi.dst v) w) : wpAnyH P md ops Q S (fuel + 1) listed a w := by
  rw [Bool.and_eq_true, Bool.and_eq_true] at hb;exact wpAnyH_take (by rw [<- Array.getElem?_toList]; exact hi) hb.1.1 hb.1.2 hb.2 hQ hy hS h
theorem tkE (i f : Nat) (hi : ops.toList[i]? = some oi) (hb : (Region.noSelect ops && Region.free md ops listed i && (Region.ready md ops listed).contains i && reachB md ops i f t) = true)
    (hQ : ∀ c a w, Q (.panic c) (a.put oi.dst v) w -> Q (.panic c) a w) (hy : YieldsIf P ops S oi v a) (hsh : ShutL md ops listed) (hS : S w)
    (h : ShutL md ops (listed.setIfInBounds i true) -> wpAnyE P md ops Q S t fuel (listed.setIfInBounds i true) (a.put oi.dst v) w) : wpAnyE P md ops Q S t (fuel + 1) listed a w := by
  rw [Bool.and_eq_true, Bool.and_eq_true, Bool.and_eq_true] at hb;exact zAo f (by rw [<- Array.getElem?_toList]; exact hi) hb.1.1.1 hb.1.1.2 hb.1.2 hb.2 hQ hy hsh hS h
/-- A row of numbers that may be taken first, one after the other. -/
def chR (md : Region.Mode) (ops : Array Oper) (t f : Nat) (e : Bool) : List Nat -> Array Bool -> Bool
  | [], _ => true
  | i :: is, l => (ops.toList[i]?.bind (·.dst)).isSome && Region.free md ops l i && (Region.ready md ops l).contains i && (!e || reachB md ops i f t) && chR md ops t f e is (l.setIfInBounds i true)
/-- What a row of operations yields, one after the other; K behind them. -/
def tkR (P : Program) (ops : Array Oper) (S : World -> Prop) (K : Nat -> Array Bool -> Act -> Prop) : List Nat -> Nat -> Array Bool -> Act -> Prop
  | [] => fun n l a => K n l a
  | i :: is => fun n l a => ∃ m oi v, n = m + 1 /\ ops.toList[i]? = some oi /\ YieldsIf P ops S oi v a /\ tkR P ops S K is m (l.setIfInBounds i true) (a.put oi.dst v)
theorem tkc {K : Nat -> Array Bool -> Act -> Prop} (hi : ops.toList[i]? = some oi) (hy : YieldsIf P ops S oi v a) (h : tkR P ops S K is fuel (listed.setIfInBounds i true) (a.put oi.dst v)) :
    tkR P ops S K (i :: is) (fuel + 1) listed a := ⟨_, _, _, rfl, hi, hy, h⟩
theorem tkz {K : Nat -> Array Bool -> Act -> Prop} (h : K fuel listed a) : tkR P ops S K [] fuel listed a := h
theorem tkHs (is : List Nat) (hb : (Region.noSelect ops && chR md ops 0 0 false is listed) = true) (hQ : ∀ d v c a w, Q (.panic c) (a.put (some d) v) w -> Q (.panic c) a w) (hS : S w)
    (h : tkR P ops S (fun n l a => wpAnyH P md ops Q S n l a w) is fuel listed a) : wpAnyH P md ops Q S fuel listed a w := by
  rw [Bool.and_eq_true] at hb;obtain ⟨hn, hb⟩ := hb;induction is generalizing fuel listed a with
  | nil => exact h
  | cons i is ih =>
    obtain ⟨m, oi, v, rfl, hi, hy, h⟩ := h;simp only [chR, Bool.and_eq_true, hi, Option.bind_some] at hb
    obtain ⟨d, hd⟩ := Option.isSome_iff_exists.1 hb.1.1.1.1;exact wpAnyH_take (by rw [<- Array.getElem?_toList]; exact hi) hn hb.1.1.1.2 hb.1.1.2 (by rw [hd]; exact hQ _ _) hy hS (ih h hb.2)
theorem tkEs (f : Nat) (is : List Nat) (hb : (Region.noSelect ops && chR md ops t f true is listed) = true) (hQ : ∀ d v c a w, Q (.panic c) (a.put (some d) v) w -> Q (.panic c) a w) (hsh : ShutL md ops listed) (hS : S w)
    (h : tkR P ops S (fun n l a => ShutL md ops l -> wpAnyE P md ops Q S t n l a w) is fuel listed a) : wpAnyE P md ops Q S t fuel listed a w := by
  rw [Bool.and_eq_true] at hb;obtain ⟨hn, hb⟩ := hb;induction is generalizing fuel listed a with
  | nil => exact h hsh
  | cons i is ih =>
    obtain ⟨m, oi, v, rfl, hi, hy, h⟩ := h;simp only [chR, Bool.and_eq_true, hi, Option.bind_some] at hb
    obtain ⟨d, hd⟩ := Option.isSome_iff_exists.1 hb.1.1.1.1;exact zAo f (by rw [<- Array.getElem?_toList]; exact hi) hn hb.1.1.1.2 hb.1.1.2 (by simpa using hb.1.2) (by rw [hd]; exact hQ _ _) hy hsh hS fun hsh => ih hsh h hb.2
theorem alH (i : Nat) (hr : Region.ready md ops listed = [i])
    (h : wpOp P ops Q i (fun a' w' => S w' /\ wpAnyH P md ops Q S fuel (listed.setIfInBounds i true) a' w') a w) : wpAnyH P md ops Q S (fuel + 1) listed a w :=
  wpAnyH_all hr (by simp) (by simpa using h)
theorem alE (i : Nat) (hr : Region.ready md ops listed = [i])
    (h : wpOp P ops Q i (fun a' w' => (i = t\/S w') /\ wpAnyE P md ops Q S t fuel (listed.setIfInBounds i true) a' w') a w) : wpAnyE P md ops Q S t (fuel + 1) listed a w :=
  zPq hr (by simp) (by simpa using h)
def chF (md : Region.Mode) (ops : Array Oper) (T : List Nat) (f : Nat) : List Nat -> Array Bool -> Bool
  | [], _ => true
  | i :: is, l => (ops.toList[i]?.bind (·.dst)).isSome && Region.free md ops l i && (Region.ready md ops l).contains i && (T.all fun t => reachB md ops i f t) && chF md ops T f is (l.setIfInBounds i true)
theorem tkFs {T : List Nat} (f : Nat) (is : List Nat) (hS : S w) (hsh : ShutL md ops listed) (h : tkR P ops S (fun n l a => ShutL md ops l -> wpAnyF P md ops Q S T n l a w) is fuel listed a)
    (hb : (Region.noSelect ops && chF md ops T f is listed) = true := by kernel_rfl) (hQ : ∀ d v c a w, Q (.panic c) (a.put (some d) v) w -> Q (.panic c) a w := by exact fun _ _ _ _ _ h => h) : wpAnyF P md ops Q S T fuel listed a w := by
  rw [Bool.and_eq_true] at hb;obtain ⟨hn, hb⟩ := hb;induction is generalizing fuel listed a with
  | nil => exact h hsh
  | cons i is ih =>
    obtain ⟨m, oi, v, rfl, hi, hy, h⟩ := h;simp only [chF, Bool.and_eq_true, hi, Option.bind_some] at hb
    obtain ⟨d, hd⟩ := Option.isSome_iff_exists.1 hb.1.1.1.1;exact zNh f (by rw [<- Array.getElem?_toList]; exact hi) hn hb.1.1.1.2 hb.1.1.2 hb.1.2 (by rw [hd]; exact hQ _ _) hy hsh hS fun hsh => ih hsh h hb.2
theorem rgF {id : Nat} (S : World -> Prop) (T : List Nat) (is : List Nat) (hS : S w.drew) (h : tkR P ops S (fun n l a => ShutL .any ops l -> wpAnyF P .any ops Q S T n l a w.drew) is ops.size (Array.replicate ops.size false) a)
    (hm : P.follows .mixedOrders = true := by kernel_rfl) (hb : (Region.noSelect ops && chF .any ops T 16 is (Array.replicate ops.size false)) = true := by kernel_rfl) (hQ : ∀ d v c a w, Q (.panic c) (a.put (some d) v) w -> Q (.panic c) a w := by exact fun _ _ _ _ _ h => h) : (Code.region id ops true).wp P Q a w :=
  zNi S T hm fun hsh => tkFs 16 is hS hsh h hb hQ
theorem alF {T : List Nat} (i : Nat) {o : Oper} (h : ∀ K : Act -> World -> Prop, (∀ a' w', (i ∈ T\/S w') /\ wpAnyF P md ops Q S T fuel (listed.setIfInBounds i true) a' w' -> K a' w') -> if Region.wanted o (yielded ops a.tmps) = true then o.wp P a w K Q else K (a.put o.dst undef) w)
    (hr : Region.ready md ops listed = [i] := by kernel_rfl) (ho : ops[i]? = some o := by rfl) : wpAnyF P md ops Q S T (fuel + 1) listed a w :=
  zKg hr (by simp) (by simpa using wpOp_step ho fun K hK => h K fun a' w' h' => hK a' w' h')
theorem shF {l : Array Bool} (h : ShutL md ops l) (i : Nat) (hi : (Region.ready md ops l).contains i = true := by kernel_rfl) : ShutL md ops (l.setIfInBounds i true) := h.set (by rw [<- List.contains_iff_mem]; exact hi)
end
open Go.RowKit
def R47:Nat:=140737488351232
def Rd (w:World) (B:Nat) (t:TypeId) (A:Option Addr) (cs:List Value):Prop :=
 cs=[]\/∃ g o,A=some ⟨g,o,none⟩/\g < w.heap.size/\(g < B\/∃ C fz,w.heap[g]? = some (.cells C t fz))/\∀ (j:Nat) (u:Value),cs[j]? = some u->w.cell? ⟨g,o+j,none⟩=some u
section
variable {w w':World} {B B':Nat} {t:TypeId} {A:Option Addr} {cs:List Value}
theorem Rd.nil:Rd w B t A []:=.inl rfl
theorem Rd.get {k:Nat} {u:Value} (h:Rd w B t A cs) (hk:cs[k]? = some u):∃ g o,A=some ⟨g,o,none⟩/\g < w.heap.size/\w.cell? ⟨g,o+k,none⟩=some u:=by
 rcases h with rfl | ⟨g,o,h1,h2,_,h4⟩
 ·simp at hk
 exact ⟨g,o,h1,h2,h4 k u hk⟩
theorem Rd.keep (h:Rd w B t A cs) (hs:w.heap.size<=w'.heap.size) (hk:∀ g,g < w.heap.size->(g < B\/∃ C fz,w.heap[g]? = some (.cells C t fz))->w'.heap[g]? = w.heap[g]?):Rd w' B t A cs:=by
 rcases h with h | ⟨g,o,h1,h2,h3,h4⟩
 ·exact .inl h
 have e:=hk g h2 h3;refine .inr ⟨g,o,h1,by omega,?_,fun j u hj=>?_⟩
 ·rw [e];exact h3
 rw [World.cell?_of_block (w:=w) (w':=w') (a:=⟨g,o+j,none⟩) e];exact h4 j u hj
theorem Rd.below (h:Rd w B t A cs) (hb:Below w.heap.size w w'):Rd w' B t A cs:=h.keep hb.size fun g hg _=>hb.block g hg
theorem Rd.drew (h:Rd w B t A cs):Rd w.drew B t A cs:=h
theorem Rd.drewN (h:Rd w B t A cs) (n:Nat):Rd (w.drewN n) B t A cs:=h
theorem Rd.alloc (h:Rd w B t A cs) (o:Obj):Rd (w.alloc o) B t A cs:=h.keep (by simp) fun g hg _=>Below.heap_alloc w o g hg
theorem Rd.mono (h:Rd w B t A cs) (hB:B<=B'):Rd w B' t A cs:=by
 rcases h with h | ⟨g,o,h1,h2,h3,h4⟩
 ·exact .inl h
 exact .inr ⟨g,o,h1,h2,h3.imp (by omega) id,h4⟩
theorem Rd.setCell (h:Rd w B t A cs) {p:Addr} {C:Array Value} {t':TypeId} {fz:Nat × Nat} (hp:w.heap[p.block]? = some (.cells C t' fz)) (hB:B<=p.block) (ht:t'≠t) (u:Value):Rd (w.setCell p u) B t A cs :=
 h.keep (by simp [World.setCell]) fun g hg hk=>Below.heap_setCell w p u g (by
  rintro rfl;rcases hk with hk | ⟨C',fz',hk⟩
  ·omega
  rw [hp] at hk;cases hk
  exact ht rfl)
theorem Rd.grown (h:Rd w B t A cs) {row:Option Nat} (hg:w.grownBy w' row) (hr:∀ g,row=some g->B<=g/\∀ C fz,w.heap[g]? ≠some (.cells C t fz)):Rd w' B t A cs :=
 h.keep hg.size fun g Ha hk=>hg.block g Ha fun e=>by
  obtain ⟨h1,h2⟩:=hr g e.symm;rcases hk with hk | ⟨C,fz,hk⟩
  ·omega
  exact h2 C fz hk
theorem Rd.take (h:Rd w B t A cs) (n:Nat):Rd w B t A (cs.take n):=by
 rcases h with h | ⟨g,o,h1,h2,h3,h4⟩
 ·subst h;exact .inl (by simp)
 exact .inr ⟨g,o,h1,h2,h3,fun j u hj=>h4 j u (by
  have:j < n:=by
   rcases Nat.lt_or_ge j n with h | h
   ·exact h
   rw [List.getElem?_eq_none (by rw [List.length_take];omega)] at hj;cases hj
  rwa [List.getElem?_take_of_lt this] at hj)⟩
end
def Blk (w:World) (g:Nat) (t:TypeId) (cs:Array Value):Prop:=w.heap[g]? = some (.cells cs t (0,0))
section
variable {w w':World} {g:Nat} {t:TypeId} {cs:Array Value}
theorem Blk.lt (h:Blk w g t cs):g < w.heap.size:=by
 rcases Nat.lt_or_ge g w.heap.size with hlt | Ha
 ·exact hlt
 unfold Blk at h;rw [Array.getElem?_eq_none Ha] at h;cases h
theorem Blk.cell (h:Blk w g t cs) (i:Nat):w.cell? ⟨g,i,none⟩=cs[i]?:=by
 unfold Blk at h;simp [World.cell?,h]
theorem Blk.frozen (h:Blk w g t cs) (i:Nat):w.frozen? ⟨g,i,none⟩=false:=by
 unfold Blk at h;simp [World.frozen?,h]
theorem Blk.new (w:World) (t:TypeId) (cs:Array Value):Blk (w.alloc (.cells cs t)) w.heap.size t cs:=by
 show (w.heap.push _)[w.heap.size]? = _
 simp
theorem Blk.new' {w:World} {g:Nat} {t:TypeId} {cs:Array Value} (h:g=w.heap.size):Blk (w.alloc (.cells cs t)) g t cs:=by subst h;exact Blk.new w t cs
theorem Blk.drew (h:Blk w g t cs):Blk w.drew g t cs:=h
theorem Blk.drewN (h:Blk w g t cs) (n:Nat):Blk (w.drewN n) g t cs:=h
theorem Blk.alloc (h:Blk w g t cs) (o:Obj):Blk (w.alloc o) g t cs:=(Below.heap_alloc w o g h.lt).trans h
theorem Blk.far (h:Blk w g t cs) {p:Addr} (hp:g≠p.block) (u:Value):Blk (w.setCell p u) g t cs:=(Below.heap_setCell w p u g hp).trans h
theorem Blk.below {B:Nat} (h:Blk w g t cs) (hb:Below B w w') (hg:g < B):Blk w' g t cs:=(hb.block g hg).trans h
theorem Blk.set_ (h:Blk w g t cs) (i:Nat) (u:Value):Blk (w.setCell ⟨g,i,none⟩ u) g t (cs.setIfInBounds i u):=by
 unfold Blk at h ⊢;simp [World.setCell,Array.getElem?_modify,h]
theorem Blk.same (h:Blk w g t cs) (hb:Below w.heap.size w w'):Blk w' g t cs:=h.below hb h.lt
end
theorem bcell {W w1:World} {B:Nat} (hb:Below B W w1):(∀ b o,b < B->w1.cell? ⟨b,o,none⟩=W.cell? ⟨b,o,none⟩)/\(∀ b o,b < B->w1.frozen? ⟨b,o,none⟩=W.frozen? ⟨b,o,none⟩) :=
 ⟨fun b o h=>hb.cell (p:=⟨b,o,none⟩) h,fun b o h=>hb.frozen (p:=⟨b,o,none⟩) h⟩
theorem zAf {w w':World} {o:Obj} (h:Below (w.alloc o).heap.size (w.alloc o) w'):Below w.heap.size w w' :=
 ((mG _ _).alloc (mC _) _).trans (h.mono (by simp))
theorem zBd {w w':World} {o:Obj} (h:Below (w.alloc o).heap.size (w.alloc o) w'):w.heap.size < w'.heap.size:=by
 have:=h.size;simp at this
 omega
theorem zBk {P:Program} {f:FuncId} {args:Array Value} {w:World} {a:Nat} {v:Value}
 (h:Calls P f args (w.drewN a) fun e w'=>e=.returned v/\∃ m,w'=(w.drewN a).drewN m) :
 Calls P f args (w.drewN a) fun e w''=>e=.returned v/\∃ m,w''=w.drewN m :=
 h.mono fun _ _ ⟨he,m,hm⟩=>⟨he,a+m,by rw [hm,World.drewN_drewN]⟩
structure IsStrs (w:World) (B:Nat) (v:Value) (xs:List Scu.Str):Prop where
 ex:∃ A c,v=.slice A xs.length c/\xs.length<=c/\Rd w B 9 A (xs.map Value.string)
 len:xs.length*16<=R47
 each:∀ s ∈ xs,s.size<=R47
section
variable {w w':World} {B B':Nat} {v:Value} {xs:List Scu.Str}
theorem IsStrs.below (h:IsStrs w B v xs) (hb:Below w.heap.size w w'):IsStrs w' B v xs:=⟨let ⟨A,c,h1,h2,h3⟩:=h.ex;⟨A,c,h1,h2,h3.below hb⟩,h.len,h.each⟩
theorem IsStrs.drewN (h:IsStrs w B v xs) (n:Nat):IsStrs (w.drewN n) B v xs:=⟨h.ex,h.len,h.each⟩
theorem IsStrs.alloc (h:IsStrs w B v xs) (o:Obj):IsStrs (w.alloc o) B v xs:=⟨let ⟨A,c,h1,h2,h3⟩:=h.ex;⟨A,c,h1,h2,h3.alloc o⟩,h.len,h.each⟩
theorem IsStrs.mono (h:IsStrs w B v xs) (hB:B<=B'):IsStrs w B' v xs:=⟨let ⟨A,c,h1,h2,h3⟩:=h.ex;⟨A,c,h1,h2,h3.mono hB⟩,h.len,h.each⟩
theorem IsStrs.keep (h:IsStrs w B v xs) (hs:w.heap.size<=w'.heap.size) (hk:∀ g,g < w.heap.size->(g < B\/∃ C fz,w.heap[g]? = some (.cells C 9 fz))->w'.heap[g]? = w.heap[g]?):IsStrs w' B v xs :=
 ⟨let ⟨A,c,h1,h2,h3⟩:=h.ex;⟨A,c,h1,h2,h3.keep hs hk⟩,h.len,h.each⟩
theorem IsStrs.nil_:IsStrs w B (.slice none 0 0) []:=⟨⟨none,0,rfl,mC _,Rd.nil⟩,by simp [R47],fun s hs=>by cases hs⟩
end
theorem zBz {w:World} {B:Nat} {A:Option Addr} {xs:List Scu.Str} {k:Nat} (h:Rd w B 9 A (xs.map Value.string)) (hk:k < xs.length) :
 ∃ g o,A=some ⟨g,o,none⟩/\g < w.heap.size/\w.cell? ⟨g,o+k,none⟩=some (.string xs[k]) :=
 h.get (by simp [hk])
theorem zFk {α:Type} [DecidableEq α] {xs ys:List α} {k:Nat} (h:xs.take k=ys.take k) (hx:k < xs.length) (hy:k < ys.length) (he:xs[k]=ys[k]):xs.take (k+1)=ys.take (k+1):=by
 rw [List.take_succ_eq_append_getElem hx,List.take_succ_eq_append_getElem hy,h,he]
end Go.Proofs.YtlngfbngnnepiaaGreat

/- Part 2: words and walks under the laws of the whole. -/
import Derived.Test.YtjnjhmkgfjikfaaDoorChecked
import Derived.WalkLawsBesides
import Derived.WalkSpells
import Derived.Deep.QuietTactic
import Derived.BigQuiet
import Derived.Lib.Hide
import Derived.Handy
import Derived.WalkSmall
import Derived.Deep.RegionWith
import Derived.Deep.RegionHeld3
import Derived.StillTailTactics
import Derived.Test.YtjnjhmkgfjikfaaDoorLv1
set_option linter.unusedVariables false
set_option linter.unusedSimpArgs false
set_option maxHeartbeats 4000000
set_option maxRecDepth 100000
namespace Go.Proofs.YtjnjhmkgfjikfaaDoor
open Go.RowKit
theorem zEj {n:Int} (h0:0<=n) (h1:n < 256):UInt8.ofNat n.toNat=Scu.b8 n:=by
 unfold Scu.b8
 rw [Int.emod_eq_of_lt h0 h1]
theorem zMm (n:Int):UInt8.ofNat (n % 256).toNat=Scu.b8 n:=rfl
theorem zFh (w:World) (xs:List Int) :
 (convert 78 9 (.slice (some ⟨w.heap.size,0,none⟩) xs.length xs.length)).run Tryd.prog (w.alloc (.cells (xs.map (Value.int .u8)).toArray 5)) =
  .ok (.string (strOfNums xs)) (w.alloc (.cells (xs.map (Value.int .u8)).toArray 5)):=by
 refine run_convert_bytes_arg _ 78 5 Tryd.underlying78 Tryd.underlying5 w.heap.size 0 xs.length xs.length xs rfl (fun i hi=>?_) 9 Tryd.underlying9
 have:=World.cell?_alloc_mark w (xs.map (Value.int .u8)).toArray 5 (0,0) (0+i)
 rw [this]
 simp [mH hi,List.getD]
theorem zCu (w:World) (g:Nat) (a b c d:Int) (hg:g=w.heap.size) :
 (convert 78 9 (.slice (some ⟨g,0,none⟩) 4 4)).run Tryd.prog (w.alloc (.cells #[.int .u8 a,.int .u8 b,.int .u8 c,.int .u8 d] 5)) =
  .ok (.string (strOfNums [a,b,c,d])) (w.alloc (.cells #[.int .u8 a,.int .u8 b,.int .u8 c,.int .u8 d] 5)):=by subst hg;exact zFh w [a,b,c,d]
theorem zDm (w:World) (g:Nat) (a:Int) (hg:g=w.heap.size) :
 (convert 78 9 (.slice (some ⟨g,0,none⟩) 1 1)).run Tryd.prog (w.alloc (.cells #[.int .u8 a] 5)) =
  .ok (.string (strOfNums [a])) (w.alloc (.cells #[.int .u8 a] 5)):=by subst hg;exact zFh w [a]
theorem zEx {a b c d:Value} (h:a=c) (k:b=d):Ending.returned (.tuple #[a,b])=Ending.returned (.tuple #[c,d]):=by rw [h,k]
theorem zAb {a b:Value} (h:a=b):Ending.returned a=Ending.returned b:=by rw [h]
theorem zHo {a b:ByteArray} (h:a=b):Value.string a=Value.string b:=by rw [h]
theorem zAg {k:IntKind} {a b:Int} (h:a=b):Value.int k a=Value.int k b:=by rw [h]
theorem zCb {a b:Bool} (h:a=b):Value.bool a=Value.bool b:=by rw [h]
theorem zCg (s:ByteArray) (i:Nat) (h:i < s.size):((s[i]'h).toNat:Int)=Scu.byteAt s i:=by
 unfold Scu.byteAt
 have h':i < s.data.toList.length:=by simpa using h
 rw [mI,mH h']
 rfl
theorem zAt (s:ByteArray) (i:Nat):0<=Scu.byteAt s i/\Scu.byteAt s i < 256:=by
 unfold Scu.byteAt
 have:=(s.data.toList.getD i 0).toNat_lt
 omega
theorem zFi (a:Nat) (ha:a < 9223372036854775808):(BitVec.ofInt 64 (a:Int)).toNat=a:=by
 rw [BitVec.ofInt_natCast,BitVec.toNat_ofNat];exact Nat.mod_eq_of_lt (by omega)
theorem zHe (a b:Nat) (ha:a < 9223372036854775808) (hb:b < 9223372036854775808):bits .or .i64 (a:Int) (b:Int)=((a ||| b:Nat):Int):=by
 have hx:a ||| b < 2 ^ 63:=Nat.or_lt_two_pow (by omega) (by omega)
 show IntKind.i64.wrap ((BitVec.ofInt 64 (a:Int) ||| BitVec.ofInt 64 (b:Int)).toNat:Int)=_
 rw [BitVec.toNat_or,zFi a ha,zFi b hb,IntKind.wrap_i64]
 omega
theorem zDb (k:Nat) (hk:k<=32) (a y:Int) (ha:0<=a) (hx:a*(2 ^ k:Nat) < 9223372036854775808) (hy:0<=y) (Ha:y < (2 ^ k:Nat)) :
 bits .or .i64 (a*(2 ^ k:Nat)) y=a*(2 ^ k:Nat)+y:=by
 obtain ⟨n,rfl⟩:=Int.eq_ofNat_of_zero_le ha
 obtain ⟨m,rfl⟩:=Int.eq_ofNat_of_zero_le hy
 have hm:m < 2 ^ k:=by omega
 have e:((n:Int)*(2 ^ k:Nat))=((n*2 ^ k:Nat):Int):=by push_cast;rfl
 rw [e] at hx ⊢
 have h1:n*2 ^ k < 9223372036854775808:=by omega
 have hs:=Nat.shiftLeft_add_eq_or_of_lt hm n
 rw [Nat.shiftLeft_eq] at hs
 have hp:2 ^ k<=2 ^ 32:=Nat.pow_le_pow_right (by omega) hk
 rw [zHe _ _ h1 (by omega),<- hs]
 push_cast
 rfl
theorem zLh (a y:Int) (ha:0<=a) (hx:a < 16777216) (hy:0<=y) (Ha:y < 256):bits .or .i64 (a*256) y=a*256+y :=
 zDb 8 (by omega) a y ha (by omega) hy (by omega)
theorem zJe (a y:Int) (ha:0<=a) (hx:a < 16777216) (hy:0<=y) (Ha:y < 65536):bits .or .i64 (a*65536) y=a*65536+y :=
 zDb 16 (by omega) a y ha (by omega) hy (by omega)
theorem zJf (a y:Int) (ha:0<=a) (hx:a < 16777216) (hy:0<=y) (Ha:y < 16777216):bits .or .i64 (a*16777216) y=a*16777216+y :=
 zDb 24 (by omega) a y ha (by omega) hy (by omega)
theorem zHp (a b:Int) (ha:0<=a) (Ha:a < 256) (hb:0<=b) (Hb:b < 256):bits .or .i64 (a*16777216) (b*65536)=a*16777216+b*65536 :=
 zJf a _ ha (by omega) (by omega) (by omega)
theorem zHq (a b c:Int) (ha:0<=a) (Ha:a < 256) (hb:0<=b) (Hb:b < 256) (hc:0<=c) (Hc:c < 256) :
 bits .or .i64 (a*16777216+b*65536) (c*256)=a*16777216+b*65536+c*256:=by
 have:=zJe (a*256+b) (c*256) (by omega) (by omega) (by omega) (by omega)
 rw [show (a*256+b)*65536=a*16777216+b*65536 by omega] at this
 exact this
theorem zHr (a b c d:Int) (ha:0<=a) (Ha:a < 256) (hb:0<=b) (Hb:b < 256) (hc:0<=c) (Hc:c < 256) (hd:0<=d) (Hd:d < 256) :
 bits .or .i64 (a*16777216+b*65536+c*256) d=a*16777216+b*65536+c*256+d:=by
 have:=zLh (a*65536+b*256+c) d (by omega) (by omega) (by omega) (by omega)
 rw [show (a*65536+b*256+c)*256=a*16777216+b*65536+c*256 by omega] at this
 exact this
end Go.Proofs.YtjnjhmkgfjikfaaDoor

/- Part 3: words and walks under the laws of the whole. -/
import Derived.Test.YtjnjhmkgfjikfaaDoorLv2
set_option linter.unusedVariables false
set_option linter.unusedSimpArgs false
set_option maxHeartbeats 4000000
set_option maxRecDepth 100000
namespace Go.Proofs.YtjnjhmkgfjikfaaDoor
open Go.RowKit
attribute [local go_sem] zCu zDm zCg
theorem zFy {n:Int} (h0:0<=n) (h1:n<=1073741824):strOfNums [n / 16777216,n / 65536 % 256,n / 256 % 256,n % 256]=Scu.numBytes n:=by
 unfold strOfNums Scu.numBytes
 simp only [List.map_cons,List.map_nil,zMm]
 rw [zEj (n:=n / 16777216) (by omega) (by omega)]
theorem zJg (n:Int) (w:World) :
 Calls Tryd.prog 33 #[.int .i64 n] w fun e w'=>e=.returned (.tuple #[.string (Scu.number n).1,.int .i64 (Scu.number n).2])/\Below w.heap.size w w':=by
 by_cases h:n < 0\/1073741824 < n
 ·have hs:Scu.number n=(Scu.str0,2):=if_pos h
  rw [hs]
  go_enter Tryd.func33,Tryd.ntmps33
  go_wp2
  all_goals (go_ret2;exact ⟨rfl,mG _ _⟩)
 have hs:Scu.number n=(Scu.numBytes n,0):=if_neg h
 rw [hs]
 have h0:0<=n:=by omega
 have h1:n<=1073741824:=by omega
 clear h
 go_enter Tryd.func33,Tryd.ntmps33
 go_wp2
 go_ret2
 exact ⟨zEx (zHo (zFy h0 h1)) rfl,(mG _ _).alloc (mC _) _⟩
theorem zFj {s:ByteArray} (h:s.size<=255):strOfNums [(s.size:Int)] ++ s=Scu.textBytes s:=by
 unfold strOfNums Scu.textBytes
 simp only [List.map_cons,List.map_nil]
 rw [zEj (n:=(s.size:Int)) (by omega) (by omega)]
theorem zDw (n:Int):(strOfNums [n]).size=1:=rfl
theorem zMn (s:ByteArray) (w:World) :
 Calls Tryd.prog 34 #[.string s] w fun e w'=>e=.returned (.tuple #[.string (Scu.text s).1,.int .i64 (Scu.text s).2])/\Below w.heap.size w w':=by
 by_cases h:255 < s.size
 ·have hs:Scu.text s=(Scu.str0,1):=if_pos h
  rw [hs]
  have h':(255:Int) < s.size:=by omega
  go_enter Tryd.func34,Tryd.ntmps34
  go_wp2
  all_goals (go_ret2;exact ⟨rfl,mG _ _⟩)
 have hs:Scu.text s=(Scu.textBytes s,0):=if_neg h
 rw [hs]
 have h1:(s.size:Int)<=255:=by omega
 have h2:(strOfNums [(s.size:Int)]).size+s.size<=9223372036854775807:=by rw [zDw];omega
 have h3:=fun w=>run_string_add_sum (P:=Tryd.prog) (w:=w) (strOfNums [(s.size:Int)]) s h2
 clear h2
 go_enter Tryd.func34,Tryd.ntmps34
 go_wp2
 go_ret2
 exact ⟨zEx (zHo (zFj (by omega))) rfl,(mG _ _).alloc (mC _) _⟩
theorem zFk (s:ByteArray) (w:World) :
 Calls Tryd.prog 43 #[.string s] w fun e w'=>e=.returned (.tuple #[.int .i64 (Scu.readNumber s).1,.string (Scu.readNumber s).2.1,.int .i64 (Scu.readNumber s).2.2])/\Below w.heap.size w w':=by
 by_cases h:s.size < 4
 ·have hs:Scu.readNumber s=(0,Scu.str0,5):=if_pos h
  rw [hs]
  have h':(s.size:Int) < 4:=by omega
  go_enter Tryd.func43,Tryd.ntmps43
  go_wp2
  all_goals (go_ret3;exact ⟨rfl,mG _ _⟩)
 have h':(4:Int)<=s.size:=by omega
 have g0:(0:Int) < s.size:=by omega
 have g1:(1:Int) < s.size:=by omega
 have g2:(2:Int) < s.size:=by omega
 have g3:(3:Int) < s.size:=by omega
 obtain ⟨a0,a1⟩:=zAt s 0
 obtain ⟨b0,b1⟩:=zAt s 1
 obtain ⟨c0,c1⟩:=zAt s 2
 obtain ⟨d0,d1⟩:=zAt s 3
 have o3:=zHp _ _ a0 a1 b0 b1
 have o2:=zHq _ _ _ a0 a1 b0 b1 c0 c1
 have o1:=zHr _ _ _ _ a0 a1 b0 b1 c0 c1 d0 d1
 by_cases hb:1073741824 < Scu.num4 s
 ·have hs:Scu.readNumber s=(0,Scu.str0,4):=by unfold Scu.readNumber;rw [if_neg h,if_pos hb]
  rw [hs]
  unfold Scu.num4 at hb
  clear h
  go_enter Tryd.func43,Tryd.ntmps43
  go_wp2
  go_quiet (fail)
  go_wp2
  go_ret3
  exact ⟨rfl,below_drewN (mG _ _) _⟩
 have hs:Scu.readNumber s=(Scu.num4 s,Scu.dropS s 4,0):=by unfold Scu.readNumber;rw [if_neg h,if_neg hb]
 rw [hs]
 unfold Scu.num4 at hb
 have Ha:Scu.byteAt s 0*16777216+Scu.byteAt s 1*65536+Scu.byteAt s 2*256+Scu.byteAt s 3<=1073741824:=by omega
 clear h hb
 go_enter Tryd.func43,Tryd.ntmps43
 go_wp2
 go_quiet (fail)
 go_wp2
 go_quiet (fail)
 go_wp2
 go_ret3
 exact ⟨rfl,below_drewN (below_drewN (mG _ _) _) _⟩
theorem zBg (s:ByteArray):s.toList=[]↔s.size=0:=by
 rw [ByteArray.toList_eq,<- List.length_eq_zero_iff,Array.length_toList]
 rfl
theorem zHf (s:ByteArray) (w:World) (hm:s.size<=maxLen) :
 Calls Tryd.prog 44 #[.string s] w fun e w'=>e=.returned (.tuple #[.string (Scu.readText s).1,.string (Scu.readText s).2.1,.int .i64 (Scu.readText s).2.2])/\Below w.heap.size w w':=by
 unfold maxLen at hm
 have Ha:(s.size:Int)<=9223372036854775807:=by omega
 clear hm
 by_cases h:s.size=0
 ·have hs:Scu.readText s=(Scu.str0,Scu.str0,5):=if_pos h
  rw [hs]
  have h':s.toList=[]:=(zBg s).2 h
  clear h hs
  go_enter Tryd.func44,Tryd.ntmps44
  go_wp2
  all_goals (go_ret3;exact ⟨rfl,mG _ _⟩)
 have h':¬ s.toList=[]:=fun e=>h ((zBg s).1 e)
 have Hb:s.toList.isEmpty=false:=by simpa using h'
 have g0:(0:Int) < s.size:=by omega
 obtain ⟨a0,a1⟩:=zAt s 0
 by_cases hb:(s.size:Int) - 1 < Scu.byteAt s 0
 ·have hs:Scu.readText s=(Scu.str0,Scu.str0,5):=by unfold Scu.readText;rw [if_neg h,if_pos hb]
  rw [hs]
  clear h hs
  go_enter Tryd.func44,Tryd.ntmps44
  go_wp2
  all_goals (go_ret3;exact ⟨rfl,mG _ _⟩)
 have hs:Scu.readText s=(s.extract 1 (1+Scu.byteAt s 0).toNat,Scu.dropS s (1+Scu.byteAt s 0).toNat,0):=by unfold Scu.readText;rw [if_neg h,if_neg hb]
 rw [hs]
 have Hc:=Int.not_lt.1 hb
 clear h hb hs
 go_enter Tryd.func44,Tryd.ntmps44
 go_wp2
 go_quiet (fail)
 go_wp2
 go_ret3
 exact ⟨rfl,below_drewN (mG _ _) _⟩
attribute [local go_sem] zCu zDm zCg
theorem zHs (o:Scu.Op) (w:World) :
 Calls Tryd.prog 45 #[.agg #[.int .i64 o.kind,.int .i64 o.at_,.int .i64 o.snap,.string o.data]] w fun e w' =>
  e=.returned (.int .i64 (Scu.opFault o))/\Below w.heap.size w w':=by
 obtain ⟨k,a,n,d⟩:=o
 have hd:=zBg d
 go_enter Tryd.func45,Tryd.ntmps45
 go_wp2
 all_goals (go_ret;refine ⟨zAb (zAg ?_),(mG _ _).alloc (mC _) _⟩)
 all_goals (try simp only [bne_iff_ne,ne_eq,bne_eq_false_iff_eq,Bool.not_eq_true',Bool.not_eq_false',List.isEmpty_iff,List.isEmpty_eq_false_iff,hd] at *)
 all_goals (unfold Scu.opFault;simp only [];repeat' split)
 all_goals first | rfl | omega
theorem zBq (r:Scu.Request) (w:World) :
 Calls Tryd.prog 32 #[.agg #[.int .i64 r.client,.int .i64 r.num,.int .i64 r.op.kind,.int .i64 r.op.at_,.int .i64 r.op.snap,.string r.op.data]] w fun e w' =>
  e=.returned (.int .i64 (Scu.reqFault r))/\Below w.heap.size w w':=by
 by_cases h:r.client < 1\/4 < r.client\/r.num < 1\/1048576 < r.num
 ·have hs:Scu.reqFault r=2:=if_pos h
  rw [hs]
  go_enter Tryd.func32,Tryd.ntmps32
  go_wp2_with fail
  all_goals (go_ret;exact ⟨rfl,(mG _ _).alloc (mC _) _⟩)
 have hs:Scu.reqFault r=Scu.opFault r.op:=if_neg h
 rw [hs]
 have h1:1<=r.client:=by omega
 have h2:r.client<=4:=by omega
 have h3:1<=r.num:=by omega
 have h4:r.num<=1048576:=by omega
 clear h hs
 go_enter Tryd.func32,Tryd.ntmps32
 go_wp2_with fail
 refine (zHs _ _).mono ?_;rintro e w' ⟨rfl,hb⟩
 go_wp2
 go_ret
 exact ⟨rfl,((mG _ _).alloc (mC _) _).trans (hb.mono (by simp))⟩
end Go.Proofs.YtjnjhmkgfjikfaaDoor

/- Part 22: words and walks under the laws of the whole. -/
import Derived.Deep.DeepCutAuto
import Derived.Test.YtjnjhmkgfjikfaaDoorLv11
set_option linter.unusedVariables false
set_option linter.unusedSimpArgs false
set_option maxHeartbeats 4000000
set_option maxRecDepth 100000
namespace Go.Proofs.YtjnjhmkgfjikfaaDoor
open Go.RowKit
theorem OwnStrs.nil_ {w:World} {base:Nat} : OwnStrs w base (.slice none 0 0) []:=⟨World.ownsRow_nil _ _ _ _,by simp [R47],fun s hs=>by cases hs⟩
theorem Blk.at_ {Ts:List TypeId} {B g:Nat} {w w':World} {t:TypeId} {cs:Array Value} (h:Blk w g t cs) (hs:Same Ts B w w') (ht:t ∈ Ts):Blk w' g t cs :=
 (hs.keep g h.lt (.inr ⟨_,_,_,ht,h⟩)).trans h
def arr6 (xs:List Int):Array Value:=((xs ++ List.replicate (6 - xs.length) 0).map (Value.int .i64)).toArray
structure LogI (w:World) (gk ga:Nat) (ta:TypeId) (vi no:Int) (ca:Bool) (co:Int) (xs:List Int) (lv:Value) (ys:List Scu.Str) (wr:World):Prop where
 kept:Blk wr gk 25 #[.int .i64 vi,.int .i64 no,.bool ca,lv,.int .i64 co]
 own:wr.ownsRow w.heap.size 9 1 lv ys.length (ys.map Value.string)
 nums:Blk wr ga ta (arr6 xs)
 zero:Blk wr w.heap.size 25 #[.int .i64 0,.int .i64 0,.bool false,.slice none 0 0,.int .i64 0]
 low:Below w.heap.size w wr
section
variable {w wr w':World} {gk ga:Nat} {ta:TypeId} {vi no:Int} {ca:Bool} {co:Int} {xs:List Int} {lv:Value} {ys:List Scu.Str}
theorem LogI.below (h:LogI w gk ga ta vi no ca co xs lv ys wr) (hb:Below wr.heap.size wr w'):LogI w gk ga ta vi no ca co xs lv ys w' :=
 ⟨h.kept.same hb,zAi h.own hb,h.nums.same hb,h.zero.same hb,h.low.trans (hb.mono h.low.size)⟩
theorem LogI.alloc (h:LogI w gk ga ta vi no ca co xs lv ys wr) (o:Obj):LogI w gk ga ta vi no ca co xs lv ys (wr.alloc o):=h.below (zAa wr o)
end
open Go.RowKit
end Go.Proofs.YtjnjhmkgfjikfaaDoor

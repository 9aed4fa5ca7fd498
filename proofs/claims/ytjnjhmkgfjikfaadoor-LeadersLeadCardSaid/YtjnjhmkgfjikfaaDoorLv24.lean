/- Part 24: words and walks under the laws of the whole. -/
import Derived.Test.YtjnjhmkgfjikfaaDoorTie
import Derived.Lib.LaidTab
import Derived.LaidMore
import Derived.Stop.LaidErr
import Derived.Stop.Joined
import Derived.Test.YtjnjhmkgfjikfaaDoorLv21
import Derived.Test.YtjnjhmkgfjikfaaDoorLv22
import Derived.Test.YtjnjhmkgfjikfaaDoorLv23
set_option linter.unusedVariables false
set_option linter.unusedSimpArgs false
set_option maxHeartbeats 4000000
set_option maxRecDepth 100000
namespace Go.Proofs.YtjnjhmkgfjikfaaDoor
open Go.RowKit
theorem zDq (A:Option Addr) (n c:Nat) (me:Int) (k:Scu.Kept) (w:World) (B:Nat) (hk:IsStrs w B (.slice A n c) k.log) (rr:Scu.Replica) (f:Int) (h:Scu.repNew me k=(rr,f)) :
 Calls Tryd.prog 5 #[.int .i64 me,.agg #[.int .i64 k.view,.int .i64 k.normal,.bool k.calm,.slice A n c,.int .i64 k.commit]] w fun e w'=>(∃ lu hv wv gv nv,e=.returned (.tuple #[.agg #[.int .i64 rr.me,.int .i64 rr.kept.view,.int .i64 rr.kept.normal,.bool rr.kept.calm,lu,.int .i64 rr.kept.commit,hv,wv,gv,nv],.int .i64 f])/\IsRep w' 0 lu hv wv gv nv rr)/\Below w.heap.size w w':=by
 have:=zKl (.slice A n c) me k w B hk
 rw [h] at this
 exact this
theorem zBk {r:Scu.Replica} {w:World} {B:Nat} {lu hv wv gv nv:Value} (h:IsRep w B lu hv wv gv nv r):∀ v ∈ repV r lu hv wv gv nv,v.oneCell'=true:=by
 obtain ⟨A0,n0,c0,A1,c1,A2,c2,A3,c3,A4,c4,rfl,rfl,rfl,rfl,rfl⟩:=h.forms
 intro v hv
 simp only [repV,List.mem_cons,List.not_mem_nil,or_false] at hv
 rcases hv with rfl | rfl | rfl | rfl | rfl | rfl | rfl | rfl | rfl | rfl <;> rfl
theorem zFu {w:World} {g i:Nat} {q:Addr} (h:q.block≠g) {u:Value} : (w.setCell ⟨g,i,none⟩ u).cell? q=w.cell? q:=World.cell?_of_block (Below.heap_setCell w ⟨g,i,none⟩ u q.block h)
open Go.RowKit Go.ChangeShapes Go.WideShapes Go.ChangeAt
structure BestI (w:World) (A:Option Addr) (n c:Nat) (k:Scu.Kept) (wr:World):Prop where
 best:Blk wr (w.heap.size+1) 25 #[.int .i64 k.view,.int .i64 k.normal,.bool k.calm,.slice A n c,.int .i64 k.commit]
 own:OwnStrs wr w.heap.size (.slice A n c) k.log
 zero:Blk wr w.heap.size 25 #[.int .i64 0,.int .i64 0,.bool false,.slice none 0 0,.int .i64 0]
 low:Below w.heap.size w wr
section
variable {w wr w':World} {A:Option Addr} {n c:Nat} {k:Scu.Kept}
theorem BestI.below (h:BestI w A n c k wr) (hb:Below wr.heap.size wr w'):BestI w A n c k w' :=
 ⟨h.best.same hb,h.own.below hb,h.zero.same hb,h.low.trans (hb.mono h.low.size)⟩
theorem BestI.alloc (h:BestI w A n c k wr) (o:Obj):BestI w A n c k (wr.alloc o):=h.below (zAa wr o)
theorem BestI.next (h:BestI w A n c k wr) {A':Option Addr} {n' c':Nat} {k':Scu.Kept} (ho:OwnStrs wr w.heap.size (.slice A' n' c') k'.log) :
 BestI w A' n' c' k' (((((wr.setCell ⟨w.heap.size+1,0,none⟩ (.int .i64 k'.view)).setCell ⟨w.heap.size+1,1,none⟩ (.int .i64 k'.normal)).setCell ⟨w.heap.size+1,2,none⟩ (.bool k'.calm)).setCell ⟨w.heap.size+1,3,none⟩ (.slice A' n' c')).setCell ⟨w.heap.size+1,4,none⟩ (.int .i64 k'.commit)):=by
 refine ⟨((((h.best.set_ 0 _).set_ 1 _).set_ 2 _).set_ 3 _).set_ 4 _,ho.same (Same.sets5 (B:=0) h.best (mE _) (by decide) _ _ _ _ _),?_,zEm h.low (Nat.le_succ _)⟩
 exact ((((h.zero.far (by simp) _).far (by simp) _).far (by simp) _).far (by simp) _).far (by simp) _
end
section
variable {H:Type} {enc:TypeId × Value->H} {w:World} {base:Nat} {spare:Nat->Bool} {held:Bool}
end
open Go.RowKit
section
variable {l:List Scu.Str} {k k':Scu.Kept} {up g a e:Int}
end
open Go.RowKit
open Go.ChangeShapes Go.WideShapes Go.ChangeAt Go.RowKit
def doorFuel:Nat:=24
theorem gPow : Tryd.prog.globalNamed "internal/strconv.uint64pow10" = some 0 := by kernel_rfl
theorem tPow:(Tryd.prog.globals[0]?).map (·.type)=some 101:=by kernel_rfl
theorem zIs:Tryd.prog.cellsOf 101=20:=by kernel_rfl
theorem zIt:Tryd.prog.cellsOf 95=1:=by kernel_rfl
def Tab (w : World) : Prop := Lib.TabIs Tryd.prog w "internal/strconv.uint64pow10" .u64 Lib.pow10Tab
theorem zKx {W:World} (h:laidMetH Tryd.prog Rows.leadersLeadRow.laid W):Tab W:=by
 rw [MakeChecks.laidMetH_plain _ _ _ (by kernel_rfl)] at h
 exact Lib.tabIs_of_head gPow tPow Tryd.underlying101 Tryd.underlying95 zIt zIs h.tail.tail
theorem Tab.below {w w':World} (h:Tab w) (hb:Below w.heap.size w w'):Tab w':=by
 unfold Tab Lib.TabIs World.var? at h ⊢
 rw [gPow] at h ⊢
 simp only [Option.bind_some] at h ⊢
 have Ha:0 < w.heap.size:=by
  rcases Nat.lt_or_ge 0 w.heap.size with h' | h'
  ·exact h'
  rw [Array.getElem?_eq_none h'] at h;cases h
 rw [hb.block _ Ha]
 exact h
theorem zEh (os:Os) (args:Array Value):((World.doorLaid Tryd.prog doorFuel os).forCall (fun _ _=>0) ⟨#[],args,[]⟩).Shaped Tryd.prog:=World.shaped_of_RefB (by kernel_rfl) (by kernel_rfl)
theorem zGy (os:Os) (args:Array Value):laidMetH Tryd.prog Rows.leadersLeadRow.laid ((World.doorLaid Tryd.prog doorFuel os).forCall (fun _ _=>0) ⟨#[],args,[]⟩).memory :=
 laidMetH_of_parts3 (fuel:=8) (laidMet_of_run' 8 (by kernel_rfl) (by kernel_rfl)) (by kernel_rfl) (by kernel_rfl)
end Go.Proofs.YtjnjhmkgfjikfaaDoor

/- Part 27: words and walks under the laws of the whole. -/
import Derived.Test.YtnpphdaakookcaaDoorTie
import Derived.Lib.LaidTab
import Derived.LaidMore
import Derived.Stop.LaidErr
import Derived.Stop.Joined
import Derived.Shelf.Strconv.Itoa0
import Derived.Shelf.Strconv.Itoa1
import Derived.Shelf.LaysM
import Derived.Shelf.Strconv.Itoa2
import Derived.Shelf.Strconv.Itoa3
import Derived.Test.YtnpphdaakookcaaDoorProg
import Derived.Test.YtnpphdaakookcaaDoorQ5
set_option linter.unusedVariables false
set_option linter.unusedSimpArgs false
set_option maxHeartbeats 4000000
set_option maxRecDepth 100000
namespace Go.Proofs.YtnpphdaakookcaaDoor
open Go.ChangeShapes Go.WideShapes Go.ChangeAt Go.RowKit
def doorFuel:Nat:=24
theorem gPow : Tryd.prog.globalNamed "internal/strconv.uint64pow10" = some 0 := by kernel_rfl
theorem tPow:(Tryd.prog.globals[0]?).map (·.type)=some 173:=by kernel_rfl
theorem zTj:Tryd.prog.cellsOf 173=20:=by kernel_rfl
theorem zTk:Tryd.prog.cellsOf 163=1:=by kernel_rfl
def Tab (w : World) : Prop := Lib.TabIs Tryd.prog w "internal/strconv.uint64pow10" .u64 Lib.pow10Tab
theorem zKz {W:World} (h:laidMetH Tryd.prog Rows.netsGoodRow.laid W):Tab W:=by
 rw [MakeChecks.laidMetH_plain _ _ _ (by kernel_rfl)] at h
 exact Lib.tabIs_of_head gPow tPow Tryd.underlying173 Tryd.underlying163 zTk zTj h.tail.tail
theorem Tab.below {w w':World} (h:Tab w) (hb:Below w.heap.size w w'):Tab w':=by
 unfold Tab Lib.TabIs World.var? at h ⊢
 rw [gPow] at h ⊢
 simp only [Option.bind_some] at h ⊢
 have Ha:0 < w.heap.size:=by
  rcases Nat.lt_or_ge 0 w.heap.size with h' | h'
  ·exact h'
  rw [Array.getElem?_eq_none h'] at h;cases h
 rw [hb.block _ Ha]
 exact h
theorem zCs (os:Os) (args:Array Value):((World.doorLaid Tryd.prog doorFuel os).forCall (fun _ _=>0) ⟨#[],args,[]⟩).Shaped Tryd.prog:=World.shaped_of_RefB (by kernel_rfl) (by kernel_rfl)
theorem zFu (os:Os) (args:Array Value):laidMetH Tryd.prog Rows.netsGoodRow.laid ((World.doorLaid Tryd.prog doorFuel os).forCall (fun _ _=>0) ⟨#[],args,[]⟩).memory :=
 laidMetH_of_parts3 (fuel:=8) (laidMet_of_run' 8 (by kernel_rfl) (by kernel_rfl)) (by kernel_rfl) (by kernel_rfl)
end Go.Proofs.YtnpphdaakookcaaDoor
namespace Go.Proofs
open Go.Shelf
def Tryd.laysM171_ren:Go.Shelf.Ren:=⟨fun | 171=>41 | 243=>58 | 246=>74 | 283=>92 | 284=>93 | 285=>94 | 286=>95 | 129=>103 | 317=>102 | 318=>104 | 319=>105 | 320=>106 | 337=>107 | 338=>108 | n=>n,fun | 3=>3 | 9=>9 | 2=>2 | 4=>4 | 171=>162 | 0=>0 | 53=>163 | 37=>141 | 5=>5 | 173=>166 | 212=>173 | 51=>174 | 20=>20 | 213=>175 | 46=>140 | 232=>179 | 233=>180 | n=>n,fun | 17=>0 | 18=>1 | 19=>2 | n=>n⟩
theorem Tryd.laysM171:Go.Proofs.LaysM.n171 Tryd.prog Tryd.laysM171_ren:={
 mixed:=by kernel_rfl
 f129:=Tryd.func103.trans (congrArg some (by kernel_rfl))
 f171:=Tryd.func41.trans (congrArg some (by kernel_rfl))
 f243:=Tryd.func58.trans (congrArg some (by kernel_rfl))
 f246:=Tryd.func74.trans (congrArg some (by kernel_rfl))
 f283:=Tryd.func92.trans (congrArg some (by kernel_rfl))
 f284:=Tryd.func93.trans (congrArg some (by kernel_rfl))
 f285:=Tryd.func94.trans (congrArg some (by kernel_rfl))
 f286:=Tryd.func95.trans (congrArg some (by kernel_rfl))
 f317:=Tryd.func102.trans (congrArg some (by kernel_rfl))
 f318:=Tryd.func104.trans (congrArg some (by kernel_rfl))
 f319:=Tryd.func105.trans (congrArg some (by kernel_rfl))
 f320:=Tryd.func106.trans (congrArg some (by kernel_rfl))
 f337:=Tryd.func107.trans (congrArg some (by kernel_rfl))
 f338:=Tryd.func108.trans (congrArg some (by kernel_rfl))
 t0:=Tryd.underlying0
 a0:=Tryd.isAgg0
 z0:=Tryd.sizeOf0
 v0:=Tryd.zeroValue0
 t2:=Tryd.underlying2
 a2:=Tryd.isAgg2
 z2:=Tryd.sizeOf2
 v2:=Tryd.zeroValue2
 t3:=Tryd.underlying3
 a3:=Tryd.isAgg3
 z3:=Tryd.sizeOf3
 v3:=Tryd.zeroValue3
 t4:=Tryd.underlying4
 a4:=Tryd.isAgg4
 z4:=Tryd.sizeOf4
 v4:=Tryd.zeroValue4
 t5:=Tryd.underlying5
 a5:=Tryd.isAgg5
 z5:=Tryd.sizeOf5
 v5:=Tryd.zeroValue5
 t9:=Tryd.underlying9
 a9:=Tryd.isAgg9
 z9:=Tryd.sizeOf9
 v9:=Tryd.zeroValue9
 t20:=Tryd.underlying20
 a20:=Tryd.isAgg20
 z20:=Tryd.sizeOf20
 v20:=Tryd.zeroValue20
 t37:=Tryd.underlying141
 a37:=Tryd.isAgg141
 z37:=Tryd.sizeOf141
 v37:=Tryd.zeroValue141
 t46:=Tryd.underlying140
 a46:=Tryd.isAgg140
 z46:=Tryd.sizeOf140
 v46:=Tryd.zeroValue140
 t51:=Tryd.underlying174
 a51:=Tryd.isAgg174
 z51:=Tryd.sizeOf174
 v51:=Tryd.zeroValue174
 t53:=Tryd.underlying163
 a53:=Tryd.isAgg163
 z53:=Tryd.sizeOf163
 v53:=Tryd.zeroValue163
 t171:=Tryd.underlying162
 a171:=Tryd.isAgg162
 z171:=Tryd.sizeOf162
 v171:=Tryd.zeroValue162
 t173:=Tryd.underlying166
 a173:=Tryd.isAgg166
 z173:=Tryd.sizeOf166
 v173:=Tryd.zeroValue166
 t212:=Tryd.underlying173
 a212:=Tryd.isAgg173
 z212:=Tryd.sizeOf173
 v212:=Tryd.zeroValue173
 t213:=Tryd.underlying175
 a213:=Tryd.isAgg175
 z213:=Tryd.sizeOf175
 t232:=Tryd.underlying179
 a232:=Tryd.isAgg179
 z232:=Tryd.sizeOf179
 v232:=Tryd.zeroValue179
 t233:=Tryd.underlying180
 a233:=Tryd.isAgg180
 z233:=Tryd.sizeOf180
 v233:=Tryd.zeroValue180
 g17:=by kernel_rfl
 g18:=by kernel_rfl
 g19:=by kernel_rfl
 i0:=by kernel_rfl
 i2:=by kernel_rfl
 i3:=by kernel_rfl
 i4:=by kernel_rfl
 i5:=by kernel_rfl
 i9:=by kernel_rfl
 i20:=by kernel_rfl
 i37:=by kernel_rfl
 i46:=by kernel_rfl
 i51:=by kernel_rfl
 i53:=by kernel_rfl
 i171:=by kernel_rfl
 i173:=by kernel_rfl
 i212:=by kernel_rfl
 i232:=by kernel_rfl
 i233:=by kernel_rfl
 m17:=by kernel_rfl
 m18:=by kernel_rfl
 m19:=by kernel_rfl }
open Go.RowKit Go.Sort Go.Lib in
theorem Tryd.strconv_Itoa (n : Int) (h0 : -9223372036854775808 ≤ n) (h1 : n ≤ 9223372036854775807) (w : World) (Ha : Lib.TabIs Tryd.prog w "internal/strconv.uint64pow10" .u64 Lib.pow10Tab) :
 Calls Tryd.prog 41 #[.int .i64 n] w fun e w'=>e=.returned (.string ⟨(Lib.itoa n).toArray⟩)/\∃ k os,w'=grow (w.drewN k) os:=Any.strconv_Itoa Tryd.laysM171 n h0 h1 w Ha
end Go.Proofs

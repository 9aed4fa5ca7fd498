/- Part 25: words and walks under the laws of the whole. -/
import Derived.Shelf.Strconv.Itoa0
import Derived.Shelf.Strconv.Itoa1
import Derived.Shelf.LaysM
import Derived.Shelf.Strconv.Itoa2
import Derived.Shelf.Strconv.Itoa3
import Derived.Test.YtjnjhmkgfjikfaaDoorProg
set_option linter.unusedVariables false
set_option linter.unusedSimpArgs false
set_option maxHeartbeats 4000000
set_option maxRecDepth 100000
namespace Go.Proofs
open Go.Shelf
def Tryd.laysM171_ren:Go.Shelf.Ren:=⟨fun | 171=>35 | 243=>46 | 246=>49 | 283=>50 | 284=>51 | 285=>52 | 286=>53 | 129=>55 | 317=>54 | 318=>56 | 319=>57 | 320=>58 | 337=>59 | 338=>60 | n=>n,fun | 3=>3 | 9=>9 | 2=>2 | 4=>4 | 171=>94 | 0=>0 | 53=>95 | 37=>78 | 5=>5 | 173=>98 | 212=>101 | 51=>102 | 20=>20 | 213=>103 | 46=>90 | 232=>107 | 233=>108 | n=>n,fun | 17=>0 | 18=>1 | 19=>2 | n=>n⟩
theorem Tryd.laysM171:Go.Proofs.LaysM.n171 Tryd.prog Tryd.laysM171_ren:={
 mixed:=by kernel_rfl
 f129:=Tryd.func55.trans (congrArg some (by kernel_rfl))
 f171:=Tryd.func35.trans (congrArg some (by kernel_rfl))
 f243:=Tryd.func46.trans (congrArg some (by kernel_rfl))
 f246:=Tryd.func49.trans (congrArg some (by kernel_rfl))
 f283:=Tryd.func50.trans (congrArg some (by kernel_rfl))
 f284:=Tryd.func51.trans (congrArg some (by kernel_rfl))
 f285:=Tryd.func52.trans (congrArg some (by kernel_rfl))
 f286:=Tryd.func53.trans (congrArg some (by kernel_rfl))
 f317:=Tryd.func54.trans (congrArg some (by kernel_rfl))
 f318:=Tryd.func56.trans (congrArg some (by kernel_rfl))
 f319:=Tryd.func57.trans (congrArg some (by kernel_rfl))
 f320:=Tryd.func58.trans (congrArg some (by kernel_rfl))
 f337:=Tryd.func59.trans (congrArg some (by kernel_rfl))
 f338:=Tryd.func60.trans (congrArg some (by kernel_rfl))
 t0:=Tryd.underlying0
 a0:=Tryd.isAgg0
 z0:=Tryd.sizeOf0
 v0:=Tryd.zeroValue0
 t2:=Tryd.underlying2
 a2:=Tryd.isAgg2
 z2:=Tryd.sizeOf2
 v2:=Tryd.zeroValue2
 t3:=Tryd.underlying3
 a3:=Tryd.isAgg3
 z3:=Tryd.sizeOf3
 v3:=Tryd.zeroValue3
 t4:=Tryd.underlying4
 a4:=Tryd.isAgg4
 z4:=Tryd.sizeOf4
 v4:=Tryd.zeroValue4
 t5:=Tryd.underlying5
 a5:=Tryd.isAgg5
 z5:=Tryd.sizeOf5
 v5:=Tryd.zeroValue5
 t9:=Tryd.underlying9
 a9:=Tryd.isAgg9
 z9:=Tryd.sizeOf9
 v9:=Tryd.zeroValue9
 t20:=Tryd.underlying20
 a20:=Tryd.isAgg20
 z20:=Tryd.sizeOf20
 v20:=Tryd.zeroValue20
 t37:=Tryd.underlying78
 a37:=Tryd.isAgg78
 z37:=Tryd.sizeOf78
 v37:=Tryd.zeroValue78
 t46:=Tryd.underlying90
 a46:=Tryd.isAgg90
 z46:=Tryd.sizeOf90
 v46:=Tryd.zeroValue90
 t51:=Tryd.underlying102
 a51:=Tryd.isAgg102
 z51:=Tryd.sizeOf102
 v51:=Tryd.zeroValue102
 t53:=Tryd.underlying95
 a53:=Tryd.isAgg95
 z53:=Tryd.sizeOf95
 v53:=Tryd.zeroValue95
 t171:=Tryd.underlying94
 a171:=Tryd.isAgg94
 z171:=Tryd.sizeOf94
 v171:=Tryd.zeroValue94
 t173:=Tryd.underlying98
 a173:=Tryd.isAgg98
 z173:=Tryd.sizeOf98
 v173:=Tryd.zeroValue98
 t212:=Tryd.underlying101
 a212:=Tryd.isAgg101
 z212:=Tryd.sizeOf101
 v212:=Tryd.zeroValue101
 t213:=Tryd.underlying103
 a213:=Tryd.isAgg103
 z213:=Tryd.sizeOf103
 t232:=Tryd.underlying107
 a232:=Tryd.isAgg107
 z232:=Tryd.sizeOf107
 v232:=Tryd.zeroValue107
 t233:=Tryd.underlying108
 a233:=Tryd.isAgg108
 z233:=Tryd.sizeOf108
 v233:=Tryd.zeroValue108
 g17:=by kernel_rfl
 g18:=by kernel_rfl
 g19:=by kernel_rfl
 i0:=by kernel_rfl
 i2:=by kernel_rfl
 i3:=by kernel_rfl
 i4:=by kernel_rfl
 i5:=by kernel_rfl
 i9:=by kernel_rfl
 i20:=by kernel_rfl
 i37:=by kernel_rfl
 i46:=by kernel_rfl
 i51:=by kernel_rfl
 i53:=by kernel_rfl
 i171:=by kernel_rfl
 i173:=by kernel_rfl
 i212:=by kernel_rfl
 i232:=by kernel_rfl
 i233:=by kernel_rfl
 m17:=by kernel_rfl
 m18:=by kernel_rfl
 m19:=by kernel_rfl }
open Go.RowKit Go.Sort Go.Lib in
theorem Tryd.strconv_Itoa (n : Int) (h0 : -9223372036854775808 ≤ n) (h1 : n ≤ 9223372036854775807) (w : World) (Ha : Lib.TabIs Tryd.prog w "internal/strconv.uint64pow10" .u64 Lib.pow10Tab) :
 Calls Tryd.prog 35 #[.int .i64 n] w fun e w'=>e=.returned (.string ⟨(Lib.itoa n).toArray⟩)/\∃ k os,w'=grow (w.drewN k) os:=Any.strconv_Itoa Tryd.laysM171 n h0 h1 w Ha
end Go.Proofs

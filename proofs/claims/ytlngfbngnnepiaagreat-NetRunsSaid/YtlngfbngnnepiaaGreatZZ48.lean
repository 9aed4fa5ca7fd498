/- Part 48: words and walks under the laws of the whole. -/
import Derived.Test.YtlngfbngnnepiaaGreatRows
import Derived.ClosedOfChecked
import Derived.Test.YtlngfbngnnepiaaGreatZZ46
import Derived.Test.YtlngfbngnnepiaaGreatZZ47
set_option linter.unusedVariables false
set_option linter.unusedSimpArgs false
set_option maxHeartbeats 4000000
set_option maxRecDepth 100000
namespace Go.Proofs.YtlngfbngnnepiaaGreat
open Go.RowKit Go.ChangeShapes Go.WideShapes Go.ChangeAt
theorem zNc:Tryz.prog.cellsOf 57=9:=by kernel_rfl
theorem zSv:Tryz.prog.bytesOf 57=80:=by kernel_rfl
section
variable {H:Type} {enc:TypeId × Value->H} {w:World} {base:Nat} {spare:Nat->Bool} {held:Bool} {n:Nat}
theorem zVq {cs:List Value} {x:DataW H × List MemPlace} (h:DataW.trod enc Tryz.prog w base spare held n 57 cs=some x):∃ a:Scu.Act,ActE w w.heap.size cs a:=by
 obtain ⟨xs,m,_,_,hl,Ha,hf⟩:=DataW.trod_struct Tryz.underlying57 h;rw [zNc] at hl;match cs,hl with
 | [c0,c1,c2,c3,c4,c5,c6,c7,c8],_ =>
   obtain ⟨z0,e0⟩:=zEk Ha (i:=0) (by simp);obtain ⟨z1,e1⟩:=zEk Ha (i:=1) (by simp);obtain ⟨z2,e2⟩:=zEk Ha (i:=2) (by simp);obtain ⟨z3,e3⟩:=zEk Ha (i:=3) (by simp);obtain ⟨z4,e4⟩:=zEk Ha (i:=4) (by simp);obtain ⟨z5,e5⟩:=zEk Ha (i:=5) (by simp);obtain ⟨n0,h0,_⟩:=DataW.trod_int Tryz.underlying3 ((hf 0 _ rfl).trans e0);obtain ⟨n1,h1,_⟩:=DataW.trod_int Tryz.underlying3 ((hf 1 _ rfl).trans e1);obtain ⟨n2,h2,_⟩:=DataW.trod_int Tryz.underlying3 ((hf 2 _ rfl).trans e2);obtain ⟨n3,h3,_⟩:=DataW.trod_int Tryz.underlying3 ((hf 3 _ rfl).trans e3);obtain ⟨n4,h4,_⟩:=DataW.trod_int Tryz.underlying3 ((hf 4 _ rfl).trans e4);obtain ⟨o,h5,_⟩:=zWn ((hf 5 _ rfl).trans e5);simp [zMb,zOm] at h0 h1 h2 h3 h4 h5
   subst h0 h1 h2 h3 h4;refine ⟨⟨n0,n1,n2,n3,n4,o⟩,?_⟩;show _=.int .i64 n0 :: .int .i64 n1 :: .int .i64 n2 :: .int .i64 n3 :: .int .i64 n4 :: opC o
   rw [<- h5]
theorem zQs {v:Value} {d:DataW H} {p:List MemPlace} {b0:Nat} (hv:Value.okWide Tryz.prog w .any b0 22 v) (h:DataW.Trod enc Tryz.prog w base spare held 22 v d p)
 (hw:∀ k ∈ d.weights Tryz.prog 22,k<=reachBytes):∃ y,IsRow 57 9 80 ActE w w.heap.size v y:=by
 obtain ⟨a,len,cap,rfl⟩:=okWide_slice Tryz.underlying22 hv;obtain ⟨fuel,hf⟩:=h;exact zTk (⟨0,0,0,0,0,⟨0,0,0,ByteArray.empty⟩⟩:Scu.Act) Tryz.underlying22 zNc zSv (by omega) (fun h _=>zVq h) hf hw
end
theorem zVr {w:World} {B:Nat} {l:List Scu.Act} {css:List (List Value)} (h2:css.length=l.length) (h4:∀ (j:Nat) (cs:List Value) (x:Scu.Act),css[j]? = some cs->l[j]? = some x->ActE w B cs x):css.flatten=l.flatMap actV:=by
 have e:css=l.map actV:=by
  apply List.ext_getElem (by simp [h2])
  intro j h1 h3;have hj:j < l.length:=by omega
  have:=h4 j css[j] l[j] (mH h1) (mH hj);rw [List.getElem_map];exact this
 rw [e,List.flatMap_def]
theorem zVs (l:List Scu.Act):∀ u ∈ l.flatMap actV,u.oneCell'=true:=fun u hu=>by
 obtain ⟨a,_,h⟩:=List.mem_flatMap.1 hu;simp only [actV,List.mem_cons,List.not_mem_nil,or_false] at h
 rcases h with rfl | rfl | rfl | rfl | rfl | rfl | rfl | rfl | rfl <;> rfl
theorem zNd (l:List Scu.Act):(l.flatMap actV).length=l.length*9:=zOn actV 9 (fun _=>rfl) l
theorem zSw {w:World} {B:Nat} {A:Option Addr} {c:Nat} {xs:List Scu.Act} (hr:Rd w B 57 A (xs.flatMap actV)) (hc:xs.length<=c) (hl:xs.length*80<=R47):IsRow 57 9 80 ActE w B (.slice A xs.length c) xs:=by
 refine ⟨⟨A,c,xs.map actV,rfl,hc,by simp,fun cs h=>?_,by rw [<- List.flatMap_def];exact hr,fun j cs x h1 h2=>?_⟩,hl⟩
 ·obtain ⟨a,_,rfl⟩:=List.mem_map.1 h;rfl
 rw [List.getElem?_map,h2] at h1;exact (Option.some.inj h1).symm
theorem zPm (w:World):OutW w (.slice none 0 0) (.slice none 0 0) (.slice none 0 0) (.slice none 0 0) (.slice none 0 0) (.slice none 0 0) Scu.outcome0 :=
 ⟨(OwnR.nil_ (w:=w) (base:=0)).is,(OwnR.nil_ (w:=w) (base:=0)).is,(OwnR.nil_ (w:=w) (base:=0)).is,(OwnR.nil_ (w:=w) (base:=0)).is,(OwnR.nil_ (w:=w) (base:=0)).is,zJs (base:=0) (xs:=[]) (World.ownsRow_nil _ _ _ _) (by simp)⟩
theorem zK6 {P:Prop} (h:P:=by
 have hb:=Blk.new w 30 #[.slice none 0 0,.slice none 0 0,.slice none 0 0,.slice none 0 0,.slice none 0 0,.slice none 0 0];obtain ⟨r0,r1,r2,r3,r4,r5⟩:=cz6 hb;go_wp2_with (first | (go_at_call 12;refine (zAt _ _ _ _).mono ?_;rintro en w9 ⟨rfl,rfl⟩;rw [Ha];dsimp only [Bool.not_true,Bool.not_false,Bool.false_and,Bool.and_false,Bool.and_true]) | fail)
 refine bodyPost_ret (v:=.tuple #[.agg #[.slice none 0 0,.slice none 0 0,.slice none 0 0,.slice none 0 0,.slice none 0 0,.slice none 0 0],.int .i64 2]) (by simp [results,Tryz.results4,Tryz.results5,go_sem,r0,r1,r2,r3,r4,r5]) rfl ?_;exact ⟨rfl,zAa _ _⟩):P:=h
theorem zWf (s:Bool) (n:Int) (A:Option Addr) (m c:Nat) (w:World) (f:Int) (h:n < 1/\f=2\/4 < n/\f=2\/(1<=n/\n<=4)/\300 < m/\f=1) :
 Calls Tryz.prog (fRun s) #[.int .i64 n,.slice A m c] w fun e w'=>e=.returned (.tuple #[.agg #[.slice none 0 0,.slice none 0 0,.slice none 0 0,.slice none 0 0,.slice none 0 0,.slice none 0 0],.int .i64 f])/\Below w.heap.size w w':=by
 cases s
 case' false =>
  change Calls Tryz.prog 4 _ _ _;go_enter Tryz.func4,Tryz.ntmps4
 case' true =>
  change Calls Tryz.prog 5 _ _ _;go_enter Tryz.func5,Tryz.ntmps5
 all_goals
  rcases h with ⟨h,rfl⟩ | ⟨h,rfl⟩ | ⟨⟨h1,h2⟩,h3,rfl⟩
  ·have Ha:inB n 1 4=false:=by simp [inB];omega
   exact zK6
  ·have Ha:inB n 1 4=false:=by simp [inB];omega
   have h0:¬ n < 1:=by omega
   exact zK6
  ·have Ha:inB n 1 4=true:=by simp [inB];omega
   have h0:¬ n < 1:=by omega
   have h4:¬ 4 < n:=by omega
   have h5:(300:Int) < (m:Int):=by omega
   have hb:=Blk.new w 30 #[.slice none 0 0,.slice none 0 0,.slice none 0 0,.slice none 0 0,.slice none 0 0,.slice none 0 0];obtain ⟨r0,r1,r2,r3,r4,r5⟩:=cz6 hb;go_wp2_with (first | (go_at_call 12;refine (zAt _ _ _ _).mono ?_;rintro en w9 ⟨rfl,rfl⟩;rw [Ha];dsimp only [Bool.not_true,Bool.not_false,Bool.false_and,Bool.and_false,Bool.and_true]) | fail)
   refine bodyPost_ret (v:=.tuple #[.agg #[.slice none 0 0,.slice none 0 0,.slice none 0 0,.slice none 0 0,.slice none 0 0,.slice none 0 0],.int .i64 1]) (by simp [results,Tryz.results4,Tryz.results5,go_sem,r0,r1,r2,r3,r4,r5]) rfl ?_;exact ⟨rfl,zAa _ _⟩
theorem zL6 {P:Prop} (h:P:=by
 exact ⟨⟨_,_,_,_,_,_,_,_,_,_,_,_,_,_,_,_,_,_,rfl,zPm w'⟩,hb⟩):P:=h
theorem zSx (s:Bool) (n:Int) (v:Value) (l:List Scu.Act) (w:World) (B:Nat) (hx:IsRow 57 9 80 ActE w B v l) (o:Scu.Outcome) (f:Int) (hy:Scu.run n l=(o,f)) :
 Calls Tryz.prog (fRun s) #[.int .i64 n,v] w fun e w'=>(∃ A0 n0 c0 A1 n1 c1 A2 n2 c2 A3 n3 c3 A4 n4 c4 A5 n5 c5,e=.returned (.tuple #[.agg #[.slice A0 n0 c0,.slice A1 n1 c1,.slice A2 n2 c2,.slice A3 n3 c3,.slice A4 n4 c4,.slice A5 n5 c5],.int .i64 f])/\OutW w' (.slice A0 n0 c0) (.slice A1 n1 c1) (.slice A2 n2 c2) (.slice A3 n3 c3) (.slice A4 n4 c4) (.slice A5 n5 c5) o)/\Below w.heap.size w w':=by
 unfold Scu.run at hy;split at hy
 next hn =>
  obtain ⟨rfl,rfl⟩:=pr2 hy;obtain ⟨A,c,_,rfl,_⟩:=hx.ex;refine (zWf s n A l.length c w 2 (by omega)).mono ?_;rintro en w' ⟨rfl,hb⟩;exact zL6
 next hn =>
  split at hy
  next hl =>
   obtain ⟨rfl,rfl⟩:=pr2 hy;obtain ⟨A,c,_,rfl,_⟩:=hx.ex;refine (zWf s n A l.length c w 1 (by omega)).mono ?_;rintro en w' ⟨rfl,hb⟩;exact zL6
  next hl =>
   obtain ⟨rfl,rfl⟩:=pr2 hy;obtain ⟨k,rfl⟩:=Int.eq_ofNat_of_zero_le (show 0<=n by omega);obtain ⟨x,codes,hs⟩:∃ x codes,Scu.steps (Scu.netNew k) l=(x,codes):=⟨_,_,rfl⟩;refine (yAb s k v l w (by omega) (by omega) (by omega) B hx x codes hs).mono ?_;rintro en w' ⟨⟨rv,sv,fv,cv,tv,ov,rfl,ho⟩,hb⟩;obtain ⟨A0,c0,A1,c1,A2,c2,A3,c3,A4,c4,A5,c5,rfl,rfl,rfl,rfl,rfl,rfl⟩:=ho.forms;refine ⟨⟨_,_,_,_,_,_,_,_,_,_,_,_,_,_,_,_,_,_,rfl,?_⟩,hb⟩;rw [Int.toNat_natCast,hs];exact ho
theorem lawNetRuns_w (n:Int) (_:(Lit.int .i64 n).wf=true) (v:Value) (l:List Scu.Act) {w:World} (h:IsRow 57 9 80 ActE w w.heap.size v l) (W:World) (hW:W=w) :
 Calls Tryz.prog 3 #[.int .i64 n,v] W fun e w'=>e=.returned (.bool true)/\Below W.heap.size W w':=by
 subst hW;obtain ⟨⟨A,c,css,rfl,hc,h2,h3,hr,h4⟩,hl⟩:=h;rw [zVr h2 h4] at hr;obtain ⟨o,f,hy⟩:∃ o f,Scu.run n l=(o,f):=⟨_,_,rfl⟩;have HR:=mA hr;have HC:=mA hc;have HL:=mA hl;have HY:=mA hy;have HS:=mA (zAq (size:=9) (m:=l.length) (c:=c) hr (zNd l) (fun e=>by subst e;have h:=congrArg List.length (zBi hr);rw [zNd] at h;simp only [List.length_nil] at h;omega));have HM:=mA (show 0+l.length<=maxLen/\(0+l.length)*80<=140737488355328 from ⟨by unfold maxLen;unfold R47 at hl;omega,by unfold R47 at hl;omega⟩);clear hr hc hl hy h2 h3 h4;go_enter Tryz.func3,Tryz.ntmps3
 go_wp2_with (at_builtin;refine zAz _ rfl _ _ 22 rfl zXw W.heap.size _ 0 [] rfl (World.ownsRow_nil _ _ _ _) (.slice A l.length c) l.length (l.flatMap actV) rfl HS.out (zVs l) HM.out.1 HM.out.2 (mC _) ?_)
 intro u w1 He hg _;have Hj:=zAk hg (mC _) (fun k e=>by cases e);obtain ⟨Au,cu,rfl,Hk,-,Hl,-⟩:=zAi He;have HX:=mA (zSw Hl Hk HL.out);have Hm:=mA Hj;clear He hg Hj Hk Hl;go_wp2_with fail
 refine (zSx false n _ l w1 _ HX.out o f HY.out).mono ?_;rintro en w2 ⟨⟨A0,n0,c0,A1,n1,c1,A2,n2,c2,A3,n3,c3,A4,n4,c4,A5,n5,c5,rfl,ho⟩,Hn⟩;have HO:=mA ho;have Ho:=mA (Hm.out.trans (Hn.mono Hm.out.size));clear ho Hn;go_upto_region 2 with fail
 have Ha:=zAa w2 (.cells #[.slice A0 n0 c0,.slice A1 n1 c1,.slice A2 n2 c2,.slice A3 n3 c3,.slice A4 n4 c4,.slice A5 n5 c5] 30);have Hb:=Blk.new w2 30 #[.slice A0 n0 c0,.slice A1 n1 c1,.slice A2 n2 c2,.slice A3 n3 c3,.slice A4 n4 c4,.slice A5 n5 c5];have Hc:=HO.out.below Ha;have Hd:=Ho.out.trans (Ha.mono Ho.out.size);change Code.wp _ _ _ _ (w2.alloc (.cells #[.slice A0 n0 c0,.slice A1 n1 c1,.slice A2 n2 c2,.slice A3 n3 c3,.slice A4 n4 c4,.slice A5 n5 c5] 30));generalize w2.alloc (.cells #[.slice A0 n0 c0,.slice A1 n1 c1,.slice A2 n2 c2,.slice A3 n3 c3,.slice A4 n4 c4,.slice A5 n5 c5] 30)=W5 at Ha Hb Hc Hd ⊢;have Hh:=mA Hd;have Hs:=mA Hc;have HA:=mA Hb;clear Ha Hb Hc Hd;go_wp2_with fail
 refine (zSx true n _ l W5 _ (IsRow.same (zSw HR.out HC.out HL.out) (Ts:=[57]) (by simp) (Same.below Hh.out) (fun _ _ h=>h)) o f HY.out).mono ?_;rintro en w3 ⟨⟨E0,m0,d0,E1,m1,d1,E2,m2,d2,E3,m3,d3,E4,m4,d4,E5,m5,d5,rfl,ho⟩,Hf⟩;have Hp:=mA (Hh.out.trans (Hf.mono Hh.out.size));have Ht:=mA ho;have Hu:=mA (Hs.out.below Hf);have Hv:=mA (HA.out.same Hf);clear ho Hf;go_upto_region 3 with fail
 have Ha:=zAa w3 (.cells #[.slice E0 m0 d0,.slice E1 m1 d1,.slice E2 m2 d2,.slice E3 m3 d3,.slice E4 m4 d4,.slice E5 m5 d5] 30);have Hb:=Blk.new w3 30 #[.slice E0 m0 d0,.slice E1 m1 d1,.slice E2 m2 d2,.slice E3 m3 d3,.slice E4 m4 d4,.slice E5 m5 d5];have Hc:=Hu.out.below Ha;have Hi:=Ht.out.below Ha;have Hd:=Hp.out.trans (Ha.mono Hp.out.size);have Hg:=Hv.out.same Ha;change Code.wp _ _ _ _ (w3.alloc (.cells #[.slice E0 m0 d0,.slice E1 m1 d1,.slice E2 m2 d2,.slice E3 m3 d3,.slice E4 m4 d4,.slice E5 m5 d5] 30));generalize w3.alloc (.cells #[.slice E0 m0 d0,.slice E1 m1 d1,.slice E2 m2 d2,.slice E3 m3 d3,.slice E4 m4 d4,.slice E5 m5 d5] 30)=W6 at Ha Hb Hc Hi Hd Hg ⊢;have Hq:=mA Hd;have Hw:=mA Hc;have Hx:=mA Hi;obtain ⟨x0,x1,x2,x3,x4,x5⟩:=cz6 Hg;obtain ⟨y0,y1,y2,y3,y4,y5⟩:=cz6 Hb;have xl:=Hg.lt;have yl:=Hb.lt;clear Ha Hb Hc Hi Hd Hg;go_wp2_with fail
 refine (zSu _ _ _ _ _ _ _ _ _ _ _ _ o W6 Hw.out Hx.out).mono ?_;rintro en w7 ⟨rfl,Hr⟩;have HT:=mA (Hq.out.trans (Hr.mono Hq.out.size));clear Hr;go_wp2
 go_ret
 exact ⟨rfl,HT.out⟩
def signs : List Nat := [104, 97, 114, 110, 101, 115, 115, 32, 98, 48, 52, 100, 52, 56, 51, 56, 100, 54, 98, 55, 48, 50, 98, 54, 49, 49, 100, 97, 100, 102, 101, 48, 57, 51, 51, 49, 99, 53, 100, 100, 53, 51, 56, 48, 100, 97, 101, 102, 50, 50, 101, 51, 99, 101, 54, 56, 51, 51, 100, 101, 48, 48, 100, 48, 49, 100, 50, 98, 57, 51, 57, 57, 32, 99, 117, 116, 32, 97, 116, 32, 115, 99, 117, 108, 108, 105, 110, 103, 47, 115, 99, 117, 108, 108, 105, 110, 103, 108, 97, 119, 46, 78, 101, 116, 82, 117, 110, 115]
theorem zVt : Tryz.prog.initOrder = String.ofList (signs.map Char.ofNat) := by kernel_rfl
theorem zQt : Tryz.prog.initOrder.toList = signs.map Char.ofNat := by rw [zVt]; exact String.toList_ofList
def words : List (List Nat) := [[99, 117, 116], [97, 116], [115, 99, 117, 108, 108, 105, 110, 103, 47, 115, 99, 117, 108, 108, 105, 110, 103, 108, 97, 119, 46, 78, 101, 116, 82, 117, 110, 115]]
theorem zLp : behindMainWord (wordsSigns Tryz.prog.initOrder.toList) = words.map (·.map Char.ofNat) := by
  rw [zQt];kernel_rfl
def makeAt (P : Program) (W : List (List Char)) : Option Make := match W with
  | c :: rest => if c == "gc".toList || c == "spec".toList then some .whole else if c == "cut".toList || (c == "finals".toList && rest.head? == some "cut".toList) then some .cut else if c == "carried".toList then some .carried else if P.headLifts.isEmpty then none else some (.lifted P.headLifts)
  | [] => none
def mayAt (P : Program) (W : List (List Char)) : Bool := match W with
  | c :: rest =>
    ((c == "gc".toList || c == "spec".toList) && (rest.isEmpty || rest.head? == some "stop".toList)) ||
    (c == "carried".toList && rest.take 2 == ["gc".toList, "cut".toList] && !P.laysLater && !P.bearsReflect) ||
    ((stripLifts liftWords (c :: rest)).2.head? == some "cut".toList &&
      ((stripLifts liftWords (c :: rest)).1.contains "finals" || !P.laysLater) && ((stripLifts liftWords (c :: rest)).1.contains "reflectrows" || !P.bearsReflect) &&
      ((stripLifts liftWords (c :: rest)).1.contains "reflectrows" || !(stripLifts liftWords (c :: rest)).1.contains "leanrows") &&
      P.doorFits (stripLifts liftWords (c :: rest)).1)
  | [] => false
def liftsAt (ws : List (List Char)) : Bool :=
  (ws.head? == some "carried".toList && ws.take 3 != ["carried".toList, "gc".toList, "cut".toList]) || (if (stripLifts liftWords ws).2.head? == some "cut".toList then (stripLifts liftWords ws).1 else []).contains "finals"
theorem zYh {P : Program} {W : List (List Char)} (h : behindMainWord (wordsSigns P.initOrder.toList) = W) : P.make = makeAt P W := by subst h; rfl
theorem zZr {P : Program} {W : List (List Char)} (h : behindMainWord (wordsSigns P.initOrder.toList) = W) : P.mayEnter = mayAt P W := by subst h; rfl
theorem zVu {P : Program} {W : List (List Char)} (h : behindMainWord (wordsSigns P.initOrder.toList) = W) : P.liftsFinal = liftsAt W := by subst h; rfl
theorem zQu : Tryz.prog.mayEnter = true := (zZr zLp).trans (by kernel_rfl)
theorem zZs : Tryz.prog.make = some .cut := (zYh zLp).trans (by kernel_rfl)
theorem zYi : Tryz.prog.liftsFinal = false := (zVu zLp).trans (by kernel_rfl)
theorem zZt : laidOutB Tryz.prog = true := by kernel_rfl
theorem zZu : mapsRowed Tryz.prog = true := by kernel_rfl
theorem zZv : Tryz.prog.plainKeys = true := by kernel_rfl
theorem zYj : Tryz.prog.stopsHeard = true := by kernel_rfl
theorem zYk : Tryz.prog.stops = [] := by kernel_rfl
theorem zYl : Tryz.prog.stopKnobs = [] := by kernel_rfl
/-- The closed facts of a row, out of those of the program and what is left of them. -/
theorem zVv {f : FuncId} {fn : Func} {s : ChangeSpec} {c : OpenClaim} (hm : c.make = .cut) (hl : c.lifted = false) (hp : c.plainKeys = true) (hst : c.stops = []) (hk : c.knobs = []) (hsh : c.shortTexts = none)
    (h1 : (c.wf (OpenSpec.ofChange s) && (fn.params.all (Tryz.prog.readableRec ·) && namedTie Tryz.prog c.named s.vars)) = true)
    (h2 : (c.inPlace == Tryz.prog.inPlace f) = true) (h3 : (c.unfollowed == Tryz.prog.unfollowed f) = true) (h4 : (c.recurses == Tryz.prog.recurses f) = true) (h5 : (c.named == Tryz.prog.varsNamed f) = true)
    (h6 : ((c.maps == (fn.params.toList ++ s.plain.varTypes Tryz.prog).any (Tryz.prog.mapsRec ·)) && (c.ifaces == (fn.params.toList ++ s.plain.varTypes Tryz.prog).any (Tryz.prog.ifacesRec ·)) && (c.mapsOut == Tryz.prog.mapsAmong fn.resultTypes.toList) &&
      (c.loops == (fn.params.toList ++ s.plain.varTypes Tryz.prog).any (Tryz.prog.loopsFrom ·)) && (c.wideKeys == (fn.params.toList ++ s.plain.varTypes Tryz.prog ++ fn.resultTypes.toList).any (Tryz.prog.wideKeysFrom ·)) &&
      s.vars.all (Tryz.prog.varReadable ·) && fn.resultTypes.all (fun t => Tryz.prog.readableRec t && decide (t < Tryz.prog.types.size)) && (c.ifacesOut == fn.resultTypes.toList.any (Tryz.prog.ifacesRec ·)) && (c.loopsOut == fn.resultTypes.toList.any (Tryz.prog.loopsFrom ·))) = true)
    (h7 : ((c.kinds == (if c.domain.isEmpty then [] else fn.params.toList.map fun t => match Tryz.prog.underlying t with | some (.int k) => some k | _ => none)) && (c.pinned == c.pinnedBy) &&
      ((c.veiled == (fn.params.toList ++ s.plain.varTypes Tryz.prog ++ fn.resultTypes.toList).any (Tryz.prog.veiledRec ·)) && c.veiledFits Tryz.prog fn.params.toList (fn.params.toList ++ s.plain.varTypes Tryz.prog ++ fn.resultTypes.toList))) = true) :
    joinedFacts Tryz.prog f fn s c = true := by
  simp only [Bool.and_eq_true] at h1 h6 h7
  obtain ⟨a1, a2, a3⟩ := h1;obtain ⟨⟨⟨⟨⟨⟨⟨⟨b1, b2⟩, b3⟩, b4⟩, b5⟩, b6⟩, b7⟩, b8⟩, b9⟩ := h6;obtain ⟨⟨c1, c2⟩, c3, c4⟩ := h7;unfold joinedFacts;simp only [Bool.and_eq_true]
  refine ⟨⟨⟨⟨⟨⟨⟨⟨⟨⟨⟨⟨⟨⟨⟨⟨⟨⟨⟨⟨⟨⟨⟨⟨⟨⟨⟨⟨⟨⟨⟨a1, zZt⟩, zZu⟩, a2⟩, a3⟩, ?_⟩, ?_⟩, ?_⟩, ?_⟩, h2⟩, h3⟩, h4⟩, h5⟩, b1⟩, b2⟩, b3⟩, b4⟩, b5⟩, b6⟩, b7⟩, b8⟩, b9⟩, ?_⟩, ?_⟩, zYj⟩, zQu⟩, ?_⟩, ?_⟩, c1⟩, c2⟩, c3⟩, c4⟩
  · rw [hst]; rfl
  · rw [zYk]; rfl
  · rw [hk]; rfl
  · rw [zYl]; rfl
  · rw [hp, zZv]; rfl
  · rw [hsh]; rfl
  · rw [hl, zYi]; rfl
  · rw [zZs, hm]; exact beq_self_eq_true _
end Go.Proofs.YtlngfbngnnepiaaGreat

/- The card of the law 'NetsGood': for every input the call returns true; each argument reads as it did. Condition: the three tables of numbers that the library reads hold what the program's text lays in them, which the card ties. -/
import Derived.Test.YtnpphdaakookcaaDoorCards
import Derived.SevenTiedAt
import Derived.ChangeOld
import Derived.Below
import Derived.Test.YtnpphdaakookcaaDoorQ40
set_option linter.unusedVariables false
set_option linter.unusedSimpArgs false
set_option maxHeartbeats 4000000
set_option maxRecDepth 100000
namespace Scu
section
variable {x:Net}
end
theorem ord_new (n:Nat) (hn:n≤4):OrdOk 0 (netNew n) [] (List.replicate n 0) where
 tl:=rfl
 bl:=by simp [netNew]
 pos:=by omega
 came:=⟨[],gh0,zSa _ n,zOe n hn,fun c hc hw=>by
  have hl:(netNew n).clients.length=n:=by simp [netNew]
  rw [hl] at hc
  have:cAt (netNew n) c=⟨(c:Int)+1,1,req0⟩:=by
   unfold cAt netNew
   simp only
   rw [List.getD_eq_getElem?_getD,List.getElem?_map,List.getElem?_range hc]
   rfl
  rw [this] at hw
  exact (hw rfl).elim,fun s hs=>by cases hs⟩
end Scu
namespace Go.Proofs.YtnpphdaakookcaaDoor
open Go.RowKit
theorem zXe {w:World} {g n m:Nat} {e:TypeId} {xs:List Value} (h:Blk w g e xs.toArray) (hn:xs.length=n*m):Src1 w m (.slice (some ⟨g,0,none⟩) n n) n xs :=
 ⟨hn,.inr ⟨_,_,rfl,fun j u hj=>by
  have:(⟨g,0,none⟩:Addr).add j=⟨g,j,none⟩:=by unfold Addr.add;split <;> simp_all
  rw [this,h.cell]
  simpa using hj⟩⟩
theorem zXf {w:World} {A:Option Addr} {n c:Nat} {ss:List (List Scu.Str)} (h:IsRow 42 1 24 RowE w 0 (.slice A n c) ss) {k:Nat} (hk:k < ss.length):∃ g o Au nu cu,A=some ⟨g,o,none⟩∧w.cell? ⟨g,o+k,none⟩=some (.slice Au nu cu)∧IsStrs w 0 (.slice Au nu cu) ss[k]:=by
 obtain ⟨⟨A',c',css2,e1,_,h2,h3,Hb,h4⟩,_⟩:=h
 cases e1
 obtain ⟨g,o,cs1,rfl,hg,_,Ha,u,rfl,hu⟩:=zDo h2 h3 (by decide) Hb h4 hk
 obtain ⟨Au,nu,cu,rfl⟩:=hu.form
 have:=Ha 0 _ rfl
 rw [Nat.mul_one,Nat.add_zero] at this
 exact ⟨g,o,Au,nu,cu,rfl,this,hu⟩
def placeI (xs:List Scu.Str) (r:Scu.Request):Int:=if Scu.placeOf xs r < xs.length then (Scu.placeOf xs r:Int) else -1
end Go.Proofs.YtnpphdaakookcaaDoor
namespace Scu
def act9:Act:=⟨0,0,0,0,0,op0⟩
def ordAt (la:List Act):Nat→Net × List Sp × List Int
 | 0=>(netNew 3,[],[0,0,0])
 | k+1=>((act (ordAt la k).1 (la.getD k act9)).1,ordStep k (ordAt la k).1 (la.getD k act9) (ordAt la k).2.1 (ordAt la k).2.2)
theorem ordAt_ok (la:List Act):∀ k:Nat,OrdOk k (ordAt la k).1 (ordAt la k).2.1 (ordAt la k).2.2
 | 0=>ord_new 3 (by omega)
 | k+1=>(ordAt_ok la k).step (la.getD k act9)
theorem ordAt_net (la:List Act):∀ k:Nat,k≤la.length→(ordAt la k).1=(steps (netNew 3) (la.take k)).1
 | 0,_=>rfl
 | k+1,h=>by
   have hk:k < la.length:=h
   show (act (ordAt la k).1 (la.getD k act9)).1=_
   rw [ordAt_net la k (by omega),List.take_succ_eq_append_getElem hk,zGl]
   simp [steps,List.getD_eq_getElem?_getD,List.getElem?_eq_getElem hk]
section
variable {la:List Act} {o:Outcome}
theorem ord_blen (la:List Act):∀ k:Nat,(ordAt la k).2.2.length=3
 | 0=>rfl
 | k+1=>by
   have h:=ord_blen la k
   show (ordStep k (ordAt la k).1 (la.getD k act9) (ordAt la k).2.1 (ordAt la k).2.2).2.length=3
   unfold ordStep
   split
   ·exact h
   ·split
    ·simpa using h
    split <;> exact h
end
end Scu
namespace Go.Proofs.YtnpphdaakookcaaDoor
open Go.RowKit
theorem cell_lt {w:World} {g i:Nat} {u:Value} (h:w.cell? ⟨g,i,none⟩=some u):g < w.heap.size:=by
 rcases Nat.lt_or_ge g w.heap.size with h' | h'
 ·exact h'
 unfold World.cell? at h
 rw [Array.getElem?_eq_none h'] at h
 cases h
theorem codes_at {w:World} {A:Option Addr} {n c:Nat} {l:List Int} (h:IsOnes 33 8 (Value.int .i64) w 0 (.slice A n c) l) {k:Nat} {f:Int} (e:l[k]? = some f) :
 ∃ g o,A=some ⟨g,o,none⟩∧w.cell? ⟨g,o+k,none⟩=some (.int .i64 f):=by
 obtain ⟨⟨A',c',e1,_,Hb⟩,_⟩:=h
 cases e1
 obtain ⟨hk,he⟩:=List.getElem?_eq_some_iff.1 e
 obtain ⟨g,o,rfl,_,Ha⟩:=zLp Hb hk
 exact ⟨g,o,rfl,by rw [Ha,he]⟩
def spanV (all:List Scu.Str) (s:Scu.Sp):List Value:=[.int .i64 (placeI all s.t.request),.int .i64 s.frm,.int .i64 s.tq]
def SpanE (all:List Scu.Str) (_:World) (_:Nat) (cs:List Value) (s:Scu.Sp):Prop:=cs=spanV all s
structure OrdI (w2 wr:World) (la:List Scu.Act) (all:List Scu.Str) (k:Nat) (sv:Value):Prop where
 sp:∃ css,OwnR 79 3 24 (SpanE all) wr (w2.heap.size+1) sv (Scu.ordAt la k).2.1 css
 bg:Blk wr w2.heap.size 3 ((Scu.ordAt la k).2.2.map (Value.int .i64)).toArray
 low:Below w2.heap.size w2 wr
section
variable {w2 wr w':World} {la:List Scu.Act} {all:List Scu.Str} {k:Nat} {sv:Value}
theorem OrdI.below (h:OrdI w2 wr la all k sv) (hb:Below wr.heap.size wr w'):OrdI w2 w' la all k sv :=
 ⟨let ⟨css,h⟩:=h.sp;⟨css,h.same (B:=0) (Ts:=[79]) (by simp) (Same.below hb) (fun _ _ h=>h)⟩,h.bg.same hb,h.low.trans (hb.mono h.low.size)⟩
theorem OrdI.push {P w4:World} {v4:Value} {s:Scu.Sp} {css:List (List Value)} (h:OrdI w2 P la all k sv) (hf:OwnR 79 3 24 (SpanE all) P (w2.heap.size+1) sv (Scu.ordAt la k).2.1 css)
 (e:(Scu.ordAt la (k+1)).2=((Scu.ordAt la k).2.1 ++ [s],(Scu.ordAt la k).2.2)) (hm:((Scu.ordAt la k).2.1.length+1)*24≤R47)
 (h4:w4.ownsRow (w2.heap.size+1) 79 3 v4 ((Scu.ordAt la k).2.1.length+1) (css.flatten ++ spanV all s)) (hg:P.grownBy w4 sv.ownBlock):OrdI w2 w4 la all (k+1) v4:=by
 have hl:=h.bg.lt
 have hb:Below (w2.heap.size+1) P w4:=(Below.refl _ P).grown hg hl (fun q hq=>(hf.row.lt q hq).1)
 refine ⟨?_,?_,h.low.trans (hb.mono (Nat.le_succ _))⟩
 ·rw [e]
  exact ⟨_,hf.push (w':=w4) (x:=s) (cs:=spanV all s) hm rfl rfl h4 (fun _ _ h=>h)⟩
 rw [e]
 exact h.bg.below hb (Nat.lt_succ_self _)
theorem OrdI.new:OrdI w2 (w2.alloc (Obj.cells #[.int .i64 0,.int .i64 0,.int .i64 0] 3)) la all 0 (.slice none 0 0) :=
 ⟨⟨[],OwnR.nil_⟩,Blk.new _ _ _,zAa _ _⟩
end
open Go.RowKit
theorem acts_css {w:World} {l:List Scu.Act} {css:List (List Value)} (h2:css.length=l.length) (h4:∀ (j:Nat) (cs:List Value) (x:Scu.Act),css[j]? = some cs→l[j]? = some x→ActE w 0 cs x):css.flatten=l.flatMap actV:=by
 have e:css=l.map actV:=by
  apply List.ext_getElem (by simp [h2])
  intro j h1 h3
  have hj:j < l.length:=by omega
  have:=h4 j css[j] l[j] (List.getElem?_eq_getElem h1) (List.getElem?_eq_getElem hj)
  rw [List.getElem_map]
  exact this
 rw [e,List.flatMap_def]
theorem one_acts (l:List Scu.Act):∀ u ∈ l.flatMap actV,u.oneCell'=true:=fun u hu=>by
 obtain ⟨a,_,h⟩:=List.mem_flatMap.1 hu
 simp only [actV,List.mem_cons,List.not_mem_nil,or_false] at h
 rcases h with rfl | rfl | rfl | rfl | rfl | rfl | rfl | rfl | rfl <;> rfl
theorem acts_flen (l:List Scu.Act):(l.flatMap actV).length=l.length*9:=zUh actV 9 (fun _=>rfl) l
theorem acts_is {w:World} {A:Option Addr} {c:Nat} {xs:List Scu.Act} (hr:Rd w 0 40 A (xs.flatMap actV)) (hc:xs.length≤c) (hl:xs.length*80≤R47):IsActs w (.slice A xs.length c) xs:=by
 refine ⟨⟨A,c,xs.map actV,rfl,hc,by simp,fun cs h=>?_,by rw [← List.flatMap_def];exact hr,fun j cs x h1 h2=>?_⟩,hl⟩
 ·obtain ⟨a,_,rfl⟩:=List.mem_map.1 h
  rfl
 rw [List.getElem?_map,h2] at h1
 exact (Option.some.inj h1).symm
theorem cloneActs_c (v:Value) (xs:List Scu.Act) (w:World) (hv:IsActs w v xs) :
 Calls Tryd.prog 13 #[v] w fun e w'=>(∃ u,e=.returned u∧w'.ownsRow w.heap.size 40 9 u xs.length (xs.flatMap actV))∧Below w.heap.size w w':=by
 obtain ⟨⟨A,c,css,rfl,Hd,h2,h3,hr,h4⟩,hl⟩:=hv
 rw [acts_css h2 h4] at hr
 clear h2 h3 h4
 rcases A with _ | ad
 ·have hx:xs=[]:=by
   have:=zLn hr
   have:=congrArg List.length this
   rw [acts_flen] at this
   exact List.eq_nil_of_length_eq_zero (by simp only [List.length_nil] at this;omega)
  subst hx
  have Hb:=fun (W:World)=>Lib.run_eql_slice_nil (P:=Tryd.prog) W 23 40 none 0 c 0 0 Tryd.underlying23
  go_enter Tryd.func13,Tryd.ntmps13
  go_wp2
  go_ret
  exact ⟨⟨_,rfl,World.ownsRow_nil _ _ _ _⟩,Below.refl _ _⟩
 have He:=fun (W:World)=>Lib.run_eql_slice_nil (P:=Tryd.prog) W 23 40 (some ad) xs.length c 0 0 Tryd.underlying23
 have Hc:=hl
 unfold R47 at Hc
 go_enter Tryd.func13,Tryd.ntmps13
 go_wp2_with (at_builtin;refine zBc _ rfl _ _ 23 rfl zDt w.heap.size _ 0 [] rfl (zLo (Nat.le_refl _)) _ xs.length (xs.flatMap actV) rfl ?c1 (one_acts xs) (by unfold maxLen;omega) (by omega) (by simp) ?_)
 case c1=>exact zGr (hr.alloc _) (acts_flen xs) (fun e=>by cases e)
 intro v1 w1 Ha hg hw
 have Ha:w1.ownsRow w.heap.size 40 9 v1 xs.length (xs.flatMap actV):=by simpa only [Nat.zero_add,List.nil_append] using Ha
 have HO:=Lib.hid Ha
 have HW:=Lib.hid hw
 clear Ha hw
 go_wp2
 go_ret
 refine ⟨⟨_,rfl,HO.out⟩,?_⟩
 exact ((Below.refl _ _).alloc (Nat.le_refl _) _).trans (zEw hg (by simp) (fun k hk=>by simp [Value.ownBlock] at hk;omega))
theorem netRun_z (w:World):Calls Tryd.prog 12 #[.int .i64 0,.slice none 0 0] w fun e w'=>e=.returned (.tuple #[.agg #[.slice none 0 0,.slice none 0 0,.slice none 0 0,.slice none 0 0,.slice none 0 0,.slice none 0 0],.int .i64 2])∧Below w.heap.size w w':=by
 go_enter Tryd.func12,Tryd.ntmps12
 go_wp2
 have hb:=Blk.new w 32 #[.slice none 0 0,.slice none 0 0,.slice none 0 0,.slice none 0 0,.slice none 0 0,.slice none 0 0]
 obtain ⟨r0,r1,r2,r3,r4,r5⟩:=cz6 hb
 refine bodyPost_ret (v:=.tuple #[.agg #[.slice none 0 0,.slice none 0 0,.slice none 0 0,.slice none 0 0,.slice none 0 0,.slice none 0 0],.int .i64 2]) (by simp [results,Tryd.results12,go_sem,r0,r1,r2,r3,r4,r5]) rfl ?_
 exact ⟨rfl,zAa _ _⟩
theorem netRun_b (A:Option Addr) (c:Nat) (w:World):Calls Tryd.prog 12 #[.int .i64 3,.slice A 301 c] w fun e w'=>e=.returned (.tuple #[.agg #[.slice none 0 0,.slice none 0 0,.slice none 0 0,.slice none 0 0,.slice none 0 0,.slice none 0 0],.int .i64 1])∧Below w.heap.size w w':=by
 go_enter Tryd.func12,Tryd.ntmps12
 go_wp2
 have hb:=Blk.new w 32 #[.slice none 0 0,.slice none 0 0,.slice none 0 0,.slice none 0 0,.slice none 0 0,.slice none 0 0]
 obtain ⟨r0,r1,r2,r3,r4,r5⟩:=cz6 hb
 refine bodyPost_ret (v:=.tuple #[.agg #[.slice none 0 0,.slice none 0 0,.slice none 0 0,.slice none 0 0,.slice none 0 0,.slice none 0 0],.int .i64 1]) (by simp [results,Tryd.results12,go_sem,r0,r1,r2,r3,r4,r5]) rfl ?_
 exact ⟨rfl,zAa _ _⟩
def zeroAct:Array Value:=#[.int .i64 0,.int .i64 0,.int .i64 0,.int .i64 0,.int .i64 0,.int .i64 0,.int .i64 0,.int .i64 0,.string ByteArray.empty]
theorem made_acts (w:World):(Instr.makeSlice 23 (.int .i64 301) (.int .i64 301)).run Tryd.prog w=.ok (.slice (some ⟨w.heap.size,0,none⟩) 301 301) (w.alloc (.cells ((Array.range 2709).map fun j=>zeroAct[j % zeroAct.size]!) 40)):=by kernel_rfl
theorem wp_make {o:Oper} {a:Act} {K:Act→World→Prop} {Q:Exit→Act→World→Prop} {w w':World} {v:Value} (t:TypeId) (l c:Operand) (ho:o.op=.makeSlice t l c) (hr:(Instr.makeSlice t (a.eval l) (a.eval c)).run Tryd.prog w=.ok v w')
 (h:K (a.put o.dst v) w'):o.wp Tryd.prog a w K Q:=by
 unfold Oper.wp execOp
 simp only [ho,resolve,Sem.run_bind,Sem.run_pure,hr,Result.andThen_ok]
 exact h
theorem IsOnes.drop {α:Type} {t:TypeId} {bytes:Nat} {f:α→Value} {w:World} {B n c:Nat} {g o:Nat} {xs ys:List α} (h:IsOnes t bytes f w B (.slice (some ⟨g,o,none⟩) n c) (xs ++ ys)):IsOnes t bytes f w B (.slice (some ⟨g,o+xs.length,none⟩) ys.length (c - xs.length)) ys:=by
 obtain ⟨⟨A,c',e,h1,h2⟩,h3⟩:=h
 cases e
 rw [List.length_append] at h1 h3
 refine ⟨⟨_,_,rfl,by omega,?_⟩,Nat.le_trans (Nat.mul_le_mul_right _ (Nat.le_add_left _ _)) h3⟩
 rcases h2 with h2 | ⟨g',o',e,hg,hb,hc⟩
 ·left
  have:=congrArg List.length h2
  simp at this
  simp [this.2]
 cases e
 refine .inr ⟨_,_,rfl,hg,hb,fun j u hj=>?_⟩
 have:=hc (xs.length+j) u (by rw [List.map_append,List.getElem?_append_right (by simp)];simpa using hj)
 rwa [← Nat.add_assoc] at this
end Go.Proofs.YtnpphdaakookcaaDoor
namespace Scu
def bad (k:Int):List Act:=[⟨11+k,0,0,0,0,op0⟩,⟨2,3,0,0,0,op0⟩,⟨4,0,3,0,0,op0⟩,⟨6,0,0,-1,0,op0⟩,⟨1,-1,0,0,0,op0⟩]
theorem steps_bad (x:Net) (hc:x.clients.length=3) (k:Int) (h0:0≤k):steps x (bad k)=(x,[3,6,6,6,6]):=by
 have a1:act x ⟨11+k,0,0,0,0,op0⟩=(x,3):=by
  unfold act
  simp only
  rw [if_neg (by omega),if_neg (by omega),if_neg (by omega)]
 have a2:act x ⟨2,3,0,0,0,op0⟩=(x,6):=by
  unfold act actBy
  simp only
  rw [if_pos (by decide),if_pos (by right;omega)]
 have a3:act x ⟨4,0,3,0,0,op0⟩=(x,6):=by
  unfold act actAt
  simp only
  rw [if_neg (by decide),if_pos (by decide),if_pos (by decide)]
 have a4:act x ⟨6,0,0,-1,0,op0⟩=(x,6):=by
  unfold act actMessage
  simp only
  rw [if_neg (by decide),if_neg (by decide),if_pos (by decide),if_pos (by left;decide)]
 have a5:act x ⟨1,-1,0,0,0,op0⟩=(x,6):=by
  unfold act actBy
  simp only
  rw [if_pos (by decide),if_pos (by left;decide)]
 unfold bad
 simp only [steps,a1,a2,a3,a4,a5]
theorem ng_out {la:List Act} {o:Outcome} (ho:outOf (steps (netNew 3) la)=o) (k:Int) (h0:0≤k):outOf (steps (netNew 3) (la ++ bad k)) = { o with codes:=o.codes ++ [3,6,6,6,6] }:=by
 have hn:=ordAt_net la la.length (Nat.le_refl _)
 rw [List.take_length] at hn
 have hb:=(ordAt_ok la la.length).bl
 rw [ord_blen,hn] at hb
 subst ho
 rw [zGl,steps_bad _ hb.symm k h0]
 rfl
end Scu
namespace Scu
end Scu
namespace Go.Proofs.YtnpphdaakookcaaDoor
open Go.RowKit
theorem same_t (A A':Option Addr) (c c':Nat) (k:Scu.Kept) (w:World) (B B':Nat) (hv:IsStrs w B (.slice A k.log.length c) k.log) (hu:IsStrs w B' (.slice A' k.log.length c') k.log) :
 Calls Tryd.prog 17 #[.agg #[.int .i64 k.view,.int .i64 k.normal,.bool k.calm,.slice A k.log.length c,.int .i64 k.commit],.agg #[.int .i64 k.view,.int .i64 k.normal,.bool k.calm,.slice A' k.log.length c',.int .i64 k.commit]] w
  fun e w'=>e=.returned (.bool true)∧Below w.heap.size w w':=by
 have b1:=zAa w (Obj.cells #[.int .i64 k.view,.int .i64 k.normal,.bool k.calm,.slice A k.log.length c,.int .i64 k.commit] 44)
 have b2:=b1.alloc (by simp only [World.size_alloc];omega) (Obj.cells #[.int .i64 k.view,.int .i64 k.normal,.bool k.calm,.slice A' k.log.length c',.int .i64 k.commit] 44)
 have HV:=Lib.hid (hv.below b2)
 have HU:=Lib.hid (hu.below b2)
 have HB:=Lib.hid b2
 clear hv hu b1 b2
 go_enter Tryd.func17,Tryd.ntmps17
 go_wp2_with fail
 refine (zQa _ _ _ _ _ B B' HV.out HU.out).mono ?_;rintro e w7 ⟨rfl,m7,rfl⟩
 have Ha:decide (k.log=k.log)=true:=by simp
 rw [Ha]
 clear Ha
 go_wp2
 go_ret
 exact ⟨rfl,below_drewN HB.out _⟩
theorem lawNetsGood_c (v:Value) (l:List Scu.Raw) (n:Int) (hn:InI n) (w:World) (h:IsRaws w w.heap.size v l) (ht:Tab w) :
 Calls Tryd.prog 3 #[v,.int .i64 n] w fun e w'=>e=.returned (.bool true)∧Below w.heap.size w w':=by
 obtain ⟨Al,cl,rfl,Gq⟩:=h.form'
 have Ke:=zJu l 150
 have KA:=Lib.hid (zTr (.slice Al l.length cl) l 150 w w.heap.size (Nat.le_refl _) h ht (by decide))
 obtain ⟨la,Vd⟩:∃ la,Scu.rawActs l 150 3=la:=⟨_,rfl⟩
 rw [Vd] at Ke KA
 have hp:=Scu.picked_lt (n:=n) (many:=9) (by omega)
 have KP:=Lib.hid (fun W=>zAt n 9 hn (by omega) (by omega) W)
 obtain ⟨k9,Ve⟩:∃ k,Scu.picked n 9=k:=⟨_,rfl⟩
 rw [Ve] at hp KP
 obtain ⟨o,ho⟩:∃ o,Scu.outOf (Scu.steps (Scu.netNew 3) la)=o:=⟨_,rfl⟩
 obtain ⟨p,Hm⟩:∃ p:Scu.Outcome,p = { o with codes:=o.codes ++ [3,6,6,6,6] }:=⟨_,rfl⟩
 have Kf:=Scu.ng_out ho k9 hp.1
 rw [← Hm] at Kf
 have Ga:=Lib.hid (Scu.zQt ho)
 have Gb:=Lib.hid (Scu.came_slot ho)
 have Gc:=Lib.hid (Scu.came_len ho)
 have HO:=Lib.hid ho
 have Gd:=Lib.hid Kf
 have Ge:=Lib.hid (show ∀ k (hk:k < o.replicas.length),∃ h:k < p.replicas.length,p.replicas[k]=o.replicas[k] by rw [Hm];exact fun k hk=>⟨hk,rfl⟩)
 have Kg:=Lib.hid (show p.codes=o.codes ++ [3,6,6,6,6] by rw [Hm])
 have Gr:((o.flying.length:Int) == (p.flying.length:Int))=true:=by rw [Hm];simp
 have Kh:=Lib.hid (show o.codes.length=la.length by rw [← ho];exact Scu.steps_codes _ _)
 have Gs:IntKind.i64.wrap (11+k9)=11+k9:=IntWalk.i64_in _ (by omega)
 clear h ht Vd ho Kf Hm Ve hn
 go_enter Tryd.func3,Tryd.ntmps3
 go_wp2_with fail
 refine KA.out.mono ?_;rintro e w1 ⟨⟨A,c,css,rfl,Hb⟩,h1⟩
 have HX:=Lib.hid Hb.is
 have Ki:=Lib.hid h1
 clear Hb h1 KA
 go_wp2_with fail
 refine (zQf A c la w1 (by omega) HX.out o HO.out).mono ?_;rintro e w2 ⟨⟨A0,c0,A1,c1,A2,c2,A3,c3,A4,c4,A5,c5,rfl,He⟩,h2⟩
 go_upto_region 3 with fail
 have hR:=RanB.made (Ki.out.trans (h2.mono Ki.out.size)) He
 have Kj:IsActs (w2.alloc (Obj.cells #[.slice A0 o.replicas.length c0,.slice A1 o.slots.length c1,.slice A2 o.flying.length c2,.slice A3 o.clients.length c3,.slice A4 o.told.length c4,.slice A5 o.codes.length c5] 32)) (.slice A la.length c) la:=IsActs.below (IsActs.below HX.out h2) (zAa w2 _)
 obtain ⟨Wd,Hs⟩:∃ W,W=w2.alloc (Obj.cells #[.slice A0 o.replicas.length c0,.slice A1 o.slots.length c1,.slice A2 o.flying.length c2,.slice A3 o.clients.length c3,.slice A4 o.told.length c4,.slice A5 o.codes.length c5] 32):=⟨_,rfl⟩
 obtain ⟨g,hg⟩:∃ g,w2.heap.size=g:=⟨_,rfl⟩
 rw [← Hs,hg] at hR
 rw [← Hs] at Kj
 rw [← Hs,hg]
 have HR:=Lib.hid hR
 have Gf:=Lib.hid Kj
 clear hR Kj Hs hg h2 He HX Ki
 go_wp2_with fail
 refine (cloneActs_c _ la Wd Gf.out).mono ?_;rintro e w3 ⟨⟨u,rfl,Hb⟩,h3⟩
 obtain ⟨Au,cu,rfl,_,_,_,_⟩:=zAg Hb
 have Kk:=Lib.hid Hb
 have H3:=Lib.hid h3
 have Kl:=Lib.hid (Nat.le_trans h3.size (zAa w3 (Obj.cells ((Scu.bad k9).flatMap actV).toArray 40)).size)
 clear Hb h3
 go_wp2_with fail
 refine (KP.out w3).mono ?_;rintro e w' ⟨rfl,rfl⟩
 clear KP
 go_wp2_with (at_builtin;refine zBc _ rfl (.tmp 30) (.tmp 39) 23 rfl zDt Wd.heap.size (.slice Au la.length cu) la.length (la.flatMap actV) rfl (zAk Kk.out (zAa w3 (Obj.cells ((Scu.bad k9).flatMap actV).toArray 40))) (.slice (some ⟨w3.heap.size,0,none⟩) 5 5) 5 ((Scu.bad k9).flatMap actV) rfl (zXe (Blk.new w3 40 ((Scu.bad k9).flatMap actV).toArray) rfl) (one_acts _) (by unfold maxLen;omega) (by omega) Kl.out ?_)
 intro v4 x4 h4 Vf _
 obtain ⟨A9,c9,rfl,Vg,_,Km,_⟩:=zAg h4
 have Vh:Below Wd.heap.size Wd x4:=(H3.out.trans ((zAa w3 (Obj.cells ((Scu.bad k9).flatMap actV).toArray 40)).mono H3.out.size)).grown Vf Kl.out (fun q hq=>(Kk.out.lt q hq).1)
 have Ht:(la ++ Scu.bad k9).length=la.length+5:=by rw [List.length_append];rfl
 rw [← List.flatMap_append] at Km
 have Vi:IsActs x4 (.slice A9 (la ++ Scu.bad k9).length c9) (la ++ Scu.bad k9):=acts_is Km (by rw [Ht];exact Vg) (by rw [Ht];unfold R47;omega)
 have Vj:=Lib.hid Vi
 have Hu:=Lib.hid (HR.out.below Vh)
 have Hn:=Lib.hid Ht
 clear Vi Vh Km Vg h4 Vf Ht Kk H3 Kl HR
 go_wp2_with fail
 have KR:=zQf A9 c9 (la ++ Scu.bad k9) x4 (by rw [Hn.out];omega) Vj.out p Gd.out
 rw [Hn.out] at KR
 refine KR.mono ?_;rintro e w5 ⟨⟨D0,d0,D1,d1,D2,d2,D3,d3,D4,d4,D5,d5,rfl,He⟩,h5⟩
 clear KR
 go_upto_region 4 with fail
 have hR:=RanB.made (Hu.out.low.trans (h5.mono Hu.out.low.size)) He
 have Kn:=(Hu.out.below h5).below (zAa w5 (Obj.cells #[.slice D0 p.replicas.length d0,.slice D1 p.slots.length d1,.slice D2 p.flying.length d2,.slice D3 p.clients.length d3,.slice D4 p.told.length d4,.slice D5 p.codes.length d5] 32))
 obtain ⟨We,Hv⟩:∃ W,W=w5.alloc (Obj.cells #[.slice D0 p.replicas.length d0,.slice D1 p.slots.length d1,.slice D2 p.flying.length d2,.slice D3 p.clients.length d3,.slice D4 p.told.length d4,.slice D5 p.codes.length d5] 32):=⟨_,rfl⟩
 obtain ⟨g5,Ko⟩:∃ g,w5.heap.size=g:=⟨_,rfl⟩
 rw [← Hv,Ko] at hR
 rw [← Hv] at Kn
 rw [← Hv,Ko]
 have HR:=Lib.hid Kn
 have HP:=Lib.hid hR
 clear hR Kn Hv Ko h5 He Hu Vj
 go_wp2_with fail
 refine (netRun_z We).mono ?_;rintro e w6 ⟨rfl,h6⟩
 go_upto_region 5 with fail
 have Hw:=h6.trans ((zAa w6 (Obj.cells #[.slice none 0 0,.slice none 0 0,.slice none 0 0,.slice none 0 0,.slice none 0 0,.slice none 0 0] 32)).mono h6.size)
 obtain ⟨Wf,Kp⟩:∃ W,W=w6.alloc (Obj.cells #[.slice none 0 0,.slice none 0 0,.slice none 0 0,.slice none 0 0,.slice none 0 0,.slice none 0 0] 32):=⟨_,rfl⟩
 obtain ⟨g6,Vk⟩:∃ g,w6.heap.size=g:=⟨_,rfl⟩
 rw [← Kp] at Hw
 rw [← Kp,Vk]
 have Vl:=Lib.hid (HR.out.below Hw)
 have Vm:=Lib.hid (HP.out.below Hw)
 clear Kp Vk Hw h6 HR HP
 go_wp2_with fail
 refine wp_make 23 _ _ rfl (made_acts Wf) ?_
 have Ho:=zAa Wf (Obj.cells ((Array.range 2709).map fun j=>zeroAct[j % zeroAct.size]!) 40)
 obtain ⟨Wm,Vn⟩:∃ W,W=Wf.alloc (Obj.cells ((Array.range 2709).map fun j=>zeroAct[j % zeroAct.size]!) 40):=⟨_,rfl⟩
 rw [← Vn] at Ho ⊢
 clear Vn
 rename_i KK hKK
 refine hKK _ _ ?_
 clear hKK
 go_wp2_with fail
 refine (netRun_b _ _ _).mono ?_;rintro e w7 ⟨rfl,h7⟩
 go_upto_region 6 with fail
 have Hx:=(Ho.trans (h7.mono Ho.size)).trans ((zAa w7 (Obj.cells #[.slice none 0 0,.slice none 0 0,.slice none 0 0,.slice none 0 0,.slice none 0 0,.slice none 0 0] 32)).mono (Nat.le_trans Ho.size h7.size))
 obtain ⟨Wg,Kq⟩:∃ W,W=w7.alloc (Obj.cells #[.slice none 0 0,.slice none 0 0,.slice none 0 0,.slice none 0 0,.slice none 0 0,.slice none 0 0] 32):=⟨_,rfl⟩
 obtain ⟨g7,Vo⟩:∃ g,w7.heap.size=g:=⟨_,rfl⟩
 rw [← Kq] at Hx
 rw [← Kq,Vo]
 have Hj:=Lib.hid (Vl.out.below Hx)
 have Hy:=Lib.hid (Vm.out.below Hx)
 clear Kq Vo Hx h7 Ho Vl Vm
 obtain ⟨b0,b1,b2,-,-,b5⟩:=cz6 Hj.out.box
 obtain ⟨e0,-,e2,-,-,e5⟩:=cz6 Hy.out.box
 have gl:=Hj.out.box.lt
 have gl5:=Hy.out.box.lt
 have Gt:((o.codes.length:Int) != (la.length:Int))=false:=by simp [Kh.out]
 have Kr:=Hj.out.out.reps.len
 unfold R47 at Kr
 go_wp2_with fail
 go_loopw [78] (fun i wr=>∃ k:Nat,k≤o.replicas.length∧i=.int .i64 k∧Hid (Below Wg.heap.size Wg wr)) (fun i _=>o.replicas.length - (intOf i).toNat)
 case atStart=>exact ⟨0,Nat.zero_le _,rfl,Lib.hid (Below.refl _ _)⟩
 case round =>
  obtain ⟨k,hk,rfl,HK⟩:=hrel
  by_cases Hz:k < o.replicas.length
  ·have Ks:(k:Int) < (o.replicas.length:Int):=by omega
   have Vp:k < o.slots.length:=by have:=Gc.out;omega
   have Gg:(k:Int) < (o.slots.length:Int):=by omega
   obtain ⟨Gi,Kt⟩:=Ge.out k Hz
   have Gj:(k:Int) < (p.replicas.length:Int):=by omega
   obtain ⟨gen,at_,Ku⟩:=Gb.out k Hz Vp
   have Kv:=Ga.out _ (List.getElem_mem Hz)
   obtain ⟨rk,Kw⟩:∃ rk,o.replicas[k]=rk:=⟨_,rfl⟩
   obtain ⟨gr,or_,F0,q0,F1,q1,F2,q2,F3,q3,F4,q4,rfl,Gu,Vq,p0,p1,p2,p3,p4,p5,p6,p7,p8,p9⟩:=zJv (zEo Hj.out.out.reps HK.out) Hz Kw
   rw [Kw] at Ku Kv Kt
   obtain ⟨gs,os,Au,nu,cu,rfl,Kx,Vr⟩:=zXf (Hj.out.below HK.out).out.slots Vp
   obtain ⟨gw,ow,G0,z0,G1,z1,G2,z2,G3,z3,G4,z4,rfl,Gv,Vs,-,m1,m2,m3,m4,m5,-⟩:=zJv Hy.out.out.reps Gi Kt
   have Hk:=cell_lt m1
   have Hc:=zAa wr (Obj.cells #[.int .i64 rk.me,.int .i64 rk.kept.view,.int .i64 rk.kept.normal,.bool rk.kept.calm,.slice F0 rk.kept.log.length q0,.int .i64 rk.kept.commit,.slice F1 rk.have_.length q1,.slice F2 rk.wants.length q2,.slice F3 rk.gives.length q3,.slice F4 rk.given.length q4] 49)
   have Hi:=Blk.new wr 49 #[.int .i64 rk.me,.int .i64 rk.kept.view,.int .i64 rk.kept.normal,.bool rk.kept.calm,.slice F0 rk.kept.log.length q0,.int .i64 rk.kept.commit,.slice F1 rk.have_.length q1,.slice F2 rk.wants.length q2,.slice F3 rk.gives.length q3,.slice F4 rk.given.length q4]
   have HB:=Lib.hid (HK.out.trans (Hc.mono HK.out.size))
   have Hp:=cW Hc (cell_lt Kx) Kx
   have s1':=cW HB.out gl b1
   have Vt:=Lib.hid (Vq.below Hc)
   have Vu:=Lib.hid (Vr.below Hc)
   have Gk:=Lib.hid Ku
   have Gl:=Lib.hid Kv
   have Gm:=Lib.hid Vs.log
   clear Vq Kw Vr Kx Ku Kv Vs Kt
   go_upto_region 11 with fail
   obtain ⟨Wq,Ka⟩:∃ W,W=wr.alloc (Obj.cells #[.int .i64 rk.me,.int .i64 rk.kept.view,.int .i64 rk.kept.normal,.bool rk.kept.calm,.slice F0 rk.kept.log.length q0,.int .i64 rk.kept.commit,.slice F1 rk.have_.length q1,.slice F2 rk.wants.length q2,.slice F3 rk.gives.length q3,.slice F4 rk.given.length q4] 49):=⟨_,rfl⟩
   obtain ⟨gq,Ky⟩:∃ g,wr.heap.size=g:=⟨_,rfl⟩
   rw [← Ka,Ky] at Hi
   rw [← Ka] at HB Vt Vu Hp s1'
   rw [← Ka,Ky]
   have Gn:=Lib.hid Hi
   clear Ka Ky Hi Hc p0 p1 p2 p3 p4 p5 p6 p7 p8 p9
   go_wp2_with fail
   refine (zJq _ _ Wq 0 Vu.out rk.kept gen at_ 0 Gk.out).mono ?_;rintro e w5 ⟨⟨Ak,nk,ck,rfl,Kz⟩,h5⟩
   obtain rfl:nk=rk.kept.log.length:=by obtain ⟨⟨A',c',e,_⟩,_⟩:=Kz;cases e;rfl
   go_upto_region 12 with fail
   have Hc:=zAa w5 (Obj.cells #[.int .i64 rk.kept.view,.int .i64 rk.kept.normal,.bool rk.kept.calm,.slice Ak rk.kept.log.length ck,.int .i64 rk.kept.commit] 44)
   have Kb:=h5.trans (Hc.mono h5.size)
   have Kc:=Blk.new w5 44 #[.int .i64 rk.kept.view,.int .i64 rk.kept.normal,.bool rk.kept.calm,.slice Ak rk.kept.log.length ck,.int .i64 rk.kept.commit]
   have Hi:=Gn.out.same Kb
   have Hd:=Lib.hid (HB.out.trans (Kb.mono HB.out.size))
   have Hg:=Lib.hid (Vt.out.below Kb)
   have Vv:=Lib.hid (Kz.below Hc)
   obtain ⟨Wz,Kd⟩:∃ W,W=w5.alloc (Obj.cells #[.int .i64 rk.kept.view,.int .i64 rk.kept.normal,.bool rk.kept.calm,.slice Ak rk.kept.log.length ck,.int .i64 rk.kept.commit] 44):=⟨_,rfl⟩
   obtain ⟨gz,Va⟩:∃ g,w5.heap.size=g:=⟨_,rfl⟩
   rw [← Kd,Va] at Kc
   rw [← Kd] at Hi Hd Hg Vv
   rw [← Kd,Va]
   obtain ⟨x0,x1,x2,x3,x4,x5,x6,x7,x8,x9⟩:=cz10 Hi
   obtain ⟨y0,y1,y2,y3,y4⟩:=cz5 Kc
   have xl:=Hi.lt
   have yl:=Kc.lt
   have Vb:=Lib.hid (Gm.out.below Hd.out)
   have n0:=cW Hd.out gl5 e0
   have n1:=cW Hd.out Hk m1
   have n2:=cW Hd.out Hk m2
   have n3:=cW Hd.out Hk m3
   have n4:=cW Hd.out Hk m4
   have n5:=cW Hd.out Hk m5
   have nl0:=Nat.lt_of_lt_of_le gl5 Hd.out.size
   have nl1:=Nat.lt_of_lt_of_le Hk Hd.out.size
   clear Hi Kc Kd Va Hc Kb h5 Kz s1' Hp m1 m2 m3 m4 m5
   obtain ⟨S,Hh⟩:∃ S:World→Prop,S=fun w'=>Below Wz.heap.size Wz w':=⟨_,rfl⟩
   have Hf:S Wz.drew:=by rw [Hh];exact (Below.refl _ _).drew
   refine wp_region_held (S:=S) (by kernel_rfl) ?_
   change wpAnyH _ _ _ _ _ _ _ _ Wz.drew
   have HX:=fun (wv:World) (Ha:Below Wz.heap.size Wz wv)=>And.intro (cW Ha xl x0) (And.intro (cW Ha xl x1) (And.intro (cW Ha xl x2) (And.intro (cW Ha xl x3) (And.intro (cW Ha xl x4) (And.intro (cW Ha xl x5) (And.intro (cW Ha xl x6) (And.intro (cW Ha xl x7) (And.intro (cW Ha xl x8) (And.intro (cW Ha xl x9) (And.intro (cW Ha yl y0) (And.intro (cW Ha yl y1) (And.intro (cW Ha yl y2) (And.intro (cW Ha yl y3) (And.intro (cW Ha yl y4) (And.intro (cW Ha nl0 n0) (And.intro (cW Ha nl1 n1) (And.intro (cW Ha nl1 n2) (And.intro (cW Ha nl1 n3) (And.intro (cW Ha nl1 n4) (cW Ha nl1 n5))))))))))))))))))))
   clear x0 x1 x2 x3 x4 x5 x6 x7 x8 x9 y0 y1 y2 y3 y4 n0 n1 n2 n3 n4 n5
   refine tkHs [0] (by kernel_rfl) (fun _ _ _ _ _ h=>h) Hf ?_
   iterate 1
    refine tkc (v:=?_) rfl (Or.inl ⟨by rfl,?_⟩) ?_
    rotate_left
    ·(intro wv Ha;rw [Hh] at Ha;obtain ⟨q0,q1,q2,q3,q4,q5,q6,q7,q8,q9,q10,q11,q12,q13,q14,q15,q16,q17,q18,q19,q20⟩:=HX wv Ha;go_simp;(try with_reducible rfl))
    (try simp only [Act.put,zp1,zp2,zp3])
   refine tkz ?_
   refine alH 1 (by kernel_rfl) (wpOp_step (o:=_) rfl fun KA Vw=>?_)
   go_simp
   have dd:Below Wz.heap.size Wz Wz.drew:=(Below.refl _ _).drew
   refine (zKu _ _ _ _ _ rk _ 0 (Hg.out.below dd) 0 Gl.out).mono ?_;rintro e6 x6 ⟨rfl,h6⟩
   have M6:=Lib.hid (dd.trans (h6.mono dd.size))
   have Hf:S x6:=by rw [Hh];exact M6.out
   refine Vw _ _ ⟨Hf,?_⟩
   clear Vw h6 dd
   (try simp only [Act.put,zp1,zp2,zp3])
   refine tkHs [2,3,4,5,6,7,8,9,10] (by kernel_rfl) (fun _ _ _ _ _ h=>h) Hf ?_
   iterate 9
    refine tkc (v:=?_) rfl (Or.inl ⟨by rfl,?_⟩) ?_
    rotate_left
    ·(intro wv Ha;rw [Hh] at Ha;obtain ⟨q0,q1,q2,q3,q4,q5,q6,q7,q8,q9,q10,q11,q12,q13,q14,q15,q16,q17,q18,q19,q20⟩:=HX wv Ha;go_simp;(try with_reducible rfl))
    (try simp only [Act.put,zp1,zp2,zp3])
   refine tkz ?_
   refine alH 11 (by kernel_rfl) (wpOp_step (o:=_) rfl fun KB Vx=>?_)
   go_simp
   refine (same_t Ak F0 ck q0 rk.kept _ 0 0 (Vv.out.below M6.out) (Hg.out.log.below M6.out)).mono ?_;rintro e7 x7 ⟨rfl,h7⟩
   have M7:=Lib.hid (M6.out.trans (h7.mono M6.out.size))
   have Hf:S x7:=by rw [Hh];exact M7.out
   refine Vx _ _ ⟨Hf,?_⟩
   clear Vx h7
   (try simp only [Act.put,zp1,zp2,zp3])
   refine tkHs [12,13,14,15,16,17,18,19,20,21,22] (by kernel_rfl) (fun _ _ _ _ _ h=>h) Hf ?_
   iterate 11
    refine tkc (v:=?_) rfl (Or.inl ⟨by rfl,?_⟩) ?_
    rotate_left
    ·(intro wv Ha;rw [Hh] at Ha;obtain ⟨q0,q1,q2,q3,q4,q5,q6,q7,q8,q9,q10,q11,q12,q13,q14,q15,q16,q17,q18,q19,q20⟩:=HX wv Ha;go_simp;(try with_reducible rfl))
    (try simp only [Act.put,zp1,zp2,zp3])
   refine tkz ?_
   refine alH 23 (by kernel_rfl) (wpOp_step (o:=_) rfl fun KC Vy=>?_)
   go_simp
   refine (same_t F0 G0 q0 z0 rk.kept _ 0 0 (Hg.out.log.below M7.out) (Vb.out.below M7.out)).mono ?_;rintro e8 x8 ⟨rfl,h8⟩
   have M8:=Lib.hid (M7.out.trans (h8.mono M7.out.size))
   have Hf:S x8:=by rw [Hh];exact M8.out
   refine Vy _ _ ⟨Hf,?_⟩
   clear Vy h8
   (try simp only [Act.put,zp1,zp2,zp3])
   refine tkHs [24,25] (by kernel_rfl) (fun _ _ _ _ _ h=>h) Hf ?_
   iterate 2
    refine tkc (v:=?_) rfl (Or.inl ⟨by rfl,?_⟩) ?_
    rotate_left
    ·(intro wv Ha;rw [Hh] at Ha;obtain ⟨q0,q1,q2,q3,q4,q5,q6,q7,q8,q9,q10,q11,q12,q13,q14,q15,q16,q17,q18,q19,q20⟩:=HX wv Ha;go_simp;(try with_reducible rfl))
    (try simp only [Act.put,zp1,zp2,zp3])
   refine tkz ?_
   refine wpAnyH_done (by kernel_rfl) ?_ _
   change Exit.then _ _ _ _ x8
   have HN:=Lib.hid (Hd.out.trans (M8.out.mono Hd.out.size))
   clear Hf Hh HX
   go_wp2_with fail
   go_roundw
   case rel=>first | exact ⟨k+1,by omega,rfl,HN⟩ | ((repeat apply Exists.intro);exact ⟨⟨k+1,by omega,rfl,HN⟩,rfl⟩)
   case measure=>first | (simp only [intOf];omega) | (simp [intOf];omega)
  have Ks:¬ (k:Int) < (o.replicas.length:Int):=by omega
  have Hq:=(Hy.out.below HK.out).out.codes
  obtain ⟨gd,od,rfl,_⟩:=codes_at (k:=o.codes.length) (f:=3) Hq (by rw [Kg.out];simp)
  have Vc:p.codes.length=la.length+5:=by rw [Kg.out,List.length_append,Kh.out];rfl
  have hd:p.codes.length≤d5:=by obtain ⟨⟨A',c',e,h',_⟩,_⟩:=Hq;cases e;exact h'
  rw [Kg.out] at Hq
  have Hl:=Hq.drop
  have Go:=Lib.hid Hl
  have f0:=cW HK.out gl b2
  have f2:=cW HK.out gl5 e2
  have f5:=cW HK.out gl5 e5
  have HF:=Lib.hid (Hj.out.low.trans (HK.out.mono Hj.out.low.size))
  rw [Vc] at f5 hd
  have Gw:(la.length:Int)≤((la.length+5:Nat):Int):=by omega
  have Gx:(la.length:Int)≤(d5:Int):=by omega
  have Gy:la.length≤d5:=by omega
  have Gz:=Lib.hid Vc
  clear Hq Hl b0 b1 b2 b5 e0 e2 e5 Vc
  go_wp2_with fail
  have Hc:=zAa wr (Obj.cells #[.int .i64 3,.int .i64 6,.int .i64 6,.int .i64 6,.int .i64 6] 33)
  have Hl:=Go.out.below Hc
  rw [Kh.out] at Hl
  refine (zXr _ _ [3,6,6,6,6] [3,6,6,6,6] _ 0 0 Hl (zLy (f:=Value.int .i64) (xs:=[3,6,6,6,6]) (Blk.new wr 33 #[.int .i64 3,.int .i64 6,.int .i64 6,.int .i64 6,.int .i64 6]) (by decide)) rfl).mono ?_;rintro e x ⟨rfl,n9,rfl⟩
  have Hr:=below_drewN Hc n9
  obtain ⟨W9,Vz⟩:∃ W,W=(wr.alloc (Obj.cells #[.int .i64 3,.int .i64 6,.int .i64 6,.int .i64 6,.int .i64 6] 33)).drewN n9:=⟨_,rfl⟩
  rw [← Vz] at Hr ⊢
  have j0:=cW Hr (Nat.lt_of_lt_of_le gl HK.out.size) f0
  have j2:=cW Hr (Nat.lt_of_lt_of_le gl5 HK.out.size) f2
  have Gp:=Lib.hid (HF.out.trans (Hr.mono HF.out.size))
  clear Hc Hl Vz Hr f0 f2 f5
  go_wp2
  go_ret
  exact ⟨rfl,Gp.out⟩
theorem lawNetsGood_w (v:Value) (l:List Scu.Raw) {w:World} (h:IsRaws w w.heap.size v l) (n:Int) (hc:(Lit.int .i64 n).wf=true) (W:World) (hW:W=w) (ht:Tab W) :
 Calls Tryd.prog 3 #[v,.int .i64 n] W fun e w'=>e=.returned (.bool true)∧Below W.heap.size W w':=by
 subst hW
 exact lawNetsGood_c v l n (zNb hc) W h ht
end Go.Proofs.YtnpphdaakookcaaDoor
namespace Go.Proofs.YtnpphdaakookcaaDoor.netsGoodDone
open Go.ChangeShapes Go.WideShapes Go.ChangeAt Go.RowKit
open Go.ChangeMaps (open_string shut_string)
theorem own : ownKnob Tryd.prog.godebug = none := by kernel_rfl
theorem laidOut : laidOutB Tryd.prog = true := by kernel_rfl
set_option maxRecDepth 100000 in
theorem lifted (os : Os) (started : os.Started) (H : Type) (enc : TypeId × Value → H) :
    ReturnsInHanded {} Tryd.checked os 3 .any (fun w args => (Rows.netsGoodSpec.pre enc Tryd.prog Tryd.f3 [] false w args ∧ laidMetH Tryd.prog Rows.netsGoodRow.laid w) ∧ sizedMet enc Tryd.prog Tryd.f3 (OpenSpec.ofChange Rows.netsGoodSpec) false w args)
      (Rows.netsGoodSpec.post enc Tryd.prog Tryd.f3 false true false false) := by
  refine returnsInHanded_of_change_and (C := Tryd.checked) (X := fun w _ => laidMetH Tryd.prog Rows.netsGoodRow.laid w) (fun _ _ _ hh h => h.of_heap hh) own started (by kernel_rfl) Tryd.func3
    (ChangeSpec.witness_shaped (enc := enc) (C := Tryd.checked) (os := os) (X := fun w _ => laidMetH Tryd.prog Rows.netsGoodRow.laid w) false (World.doorLaid Tryd.prog doorFuel os) #[.slice none 0 0, .int .i64 0] 8 rfl (zCs os _) (by kernel_rfl) (by kernel_rfl) (by kernel_rfl) (zFu os _)) ?_
  intro W base args ds gs before hval0 hW _ hsz hL _
  have htab := zKz hL
  have hwt0 : ∀ (j : Nat) (t : TypeId) (d : DataW H), (Tryd.f3.params.toList ++ Rows.netsGoodSpec.plain.varTypes Tryd.prog)[j]? = some t → (ds ++ gs)[j]? = some d → ∀ k ∈ d.weights Tryd.prog t, k ≤ reachBytes := fun j t d ht hd k hk => by
    have := List.all_eq_true.1 hsz k (DataW.weights_mem_each ht hd k hk)
    simpa using this
  clear hsz hL
  have hwt := hwt0
  rw [Tryd.params3] at hwt
  have hval : ∀ (j : Nat) t v, Tryd.f3.params[j]? = some t → args[j]? = some v → Value.okWide Tryd.prog W .any base t v := hval0
  have hW' := hW
  obtain ⟨p, q, hA0, hV, rfl, hfz, hnd⟩ := hW
  have hA : DataW.TrodAll enc Tryd.prog W 0 (fun _ => true) true Tryd.f3.params.toList args.toList ds p := hA0
  rw [Tryd.params3] at hA hval
  obtain ⟨v0, vs0, d0, ds0, p0, q0, hargs, rfl, rfl, h0, r0⟩ := trodAll_cons hA
  obtain ⟨v1, vs1, d1, ds1, p1, q1, rfl, rfl, rfl, h1, r1⟩ := trodAll_cons r0
  obtain ⟨rfl, rfl, rfl⟩ := trodAll_nil r1
  obtain rfl : args = #[v0, v1] := by cases args; simp_all
  obtain ⟨rfl, rfl⟩ := trodVars_none hV
  have k0 := h0
  have lt0 : ∀ x ∈ p0, x.block < W.heap.size := by obtain ⟨m, hm⟩ := k0; exact DataW.trod_lt m _ _ _ hm
  obtain ⟨a0, w0⟩ := zDh (hval 0 22 v0 rfl rfl) h0 (hwt 0 22 d0 rfl rfl)
  have k1 := h1
  have lt1 : ∀ x ∈ p1, x.block < W.heap.size := by obtain ⟨m, hm⟩ := k1; exact DataW.trod_lt m _ _ _ hm
  obtain ⟨a1, hv1, hd1, hp1, w1⟩ := open_int Tryd.underlying3 (hval 1 3 v1 rfl rfl) h1
  subst hv1
  clear hA0 hval0
  refine (lawNetsGood_w v0 a0 w0 a1 w1 W rfl htab).mono fun e W' ⟨he, bel⟩ => ?_
  subst he
  exact ⟨_, rfl, _, _, _, [], _, [], hW', trodAll_mk1 (shut_bool Tryd.underlying4 _), (trodAll_cons_mk (Below.trod laidOut (by kernel_rfl) (of_decide_eq_true (by kernel_rfl)) k0 bel lt0) (trodAll_cons_mk (Below.trod laidOut (by kernel_rfl) (of_decide_eq_true (by kernel_rfl)) k1 bel lt1) trodAll_mk0)), rfl, bel.frame _, fun h => by cases h⟩
theorem over : Rows.NetsGoodSaid :=
  OpenClaim.holds_of_wide 3 Tryd.f3 rfl rfl rfl rfl rfl rfl rfl ⟨rfl, rfl, rfl, rfl, rfl⟩ rfl rfl rfl rfl rfl (by kernel_rfl) Tryd.func3 (zFt rfl rfl rfl rfl rfl rfl (by as_aux_lemma => kernel_rfl) (by as_aux_lemma => kernel_rfl) (by as_aux_lemma => kernel_rfl) (by as_aux_lemma => kernel_rfl) (by as_aux_lemma => kernel_rfl) (by as_aux_lemma => kernel_rfl) (by as_aux_lemma => kernel_rfl))
    (of_decide_eq_true (by kernel_rfl)) (by unfold Func.isWrapper; first | (rw [if_pos (by decide +kernel)]; kernel_rfl) | (rw [if_neg (by decide +kernel)]; exact ⟨rfl, rfl⟩))
    (fun os started H enc _ => lifted os started H enc)
theorem proved : Rows.NetsGoodCardSaid :=
  Claim7.holds_tied_plain_at .later [] [.data, .data, .data] true Rows.netsGoodCard.stood.harness false
    over (fun _ h => by cases h) (by kernel_rfl) (fun _ h => by cases h) netsGood_row_tie rfl ⟨rfl, rfl⟩ (by kernel_rfl) rfl
    (fun f fn hf hfn => by
      obtain rfl : f = 3 := Option.some.inj ((show Tryd.prog.funcNamed Rows.netsGoodRow.func = some 3 by kernel_rfl).symm.trans hf) |>.symm
      obtain rfl : fn = Tryd.f3 := (Option.some.inj (Tryd.func3.symm.trans hfn)).symm
      exact ⟨by kernel_rfl, fun j t ht => by
        rw [Tryd.params3] at ht
        have hm : t ∈ [22, 3] := by simpa using Array.mem_of_getElem? ht
        have hall : ([22, 3].all fun u => !Tryd.prog.wantsStandIn u) = true := by kernel_rfl
        exact (show Tryd.prog.wantsStandIn t = false by simpa using List.all_eq_true.1 hall t hm)⟩)
    (by kernel_rfl)
end Go.Proofs.YtnpphdaakookcaaDoor.netsGoodDone

/- Part 26: words and walks under the laws of the whole. -/
import Derived.Test.YtnpphdaakookcaaDoorRows
import Derived.ClosedOfChecked
import Derived.Test.YtnpphdaakookcaaDoorQ20
set_option linter.unusedVariables false
set_option linter.unusedSimpArgs false
set_option maxHeartbeats 4000000
set_option maxRecDepth 100000
namespace Go.Proofs.YtnpphdaakookcaaDoor
open Go.RowKit
def zeroM:List Value:=[.int .i64 0,.int .i64 0,.int .i64 0,.int .i64 0,.int .i64 0,.int .i64 0,.int .i64 0,.slice none 0 0]
theorem zMa (w:World) (ty:TypeId) (g o c:Nat) (hc:∀ j,j < 8->(w.cell? ⟨g,o+j,none⟩).isSome=true) (hf:∀ j,j < 8->w.frozen? ⟨g,o+j,none⟩=false) :
 (Builtin.clear_ #[27] ty #[.slice (some ⟨g,o,none⟩) 1 c]).run Tryd.prog w=.ok (.tuple #[]) (w.setCells g o zeroM):=by
 have hz:∀ w,(zeroValue 137).run Tryd.prog w=.ok (.agg zeroM.toArray) w:=fun w=>by kernel_rfl
 have hl:(Builtin.zeroCells zeroM.toArray 1).toList=zeroM:=by kernel_rfl
 have Ha:=run_storeCells_cells (P:=Tryd.prog) g o zeroM 0 w (fun j hj=>by simpa using hc j hj) (fun j hj=>by simpa using hf j hj) (fun v hv=>by
  simp only [zeroM,List.mem_cons,List.not_mem_nil,or_false] at hv
  rcases hv with rfl | rfl | rfl | rfl | rfl | rfl | rfl | rfl <;> rfl)
 simp only [Nat.add_zero] at Ha
 have Hb:(Builtin.zeroCells (Value.agg zeroM.toArray).cells 1).toList=zeroM:=hl
 simp [Builtin.clear_,run_underlying Tryd.underlying27,hz,Hb,Ha]
theorem zWd {w:World} {B:Nat} {css:List (List Value)} {ms:List Scu.Message} (hl:css.length=ms.length) (he:∀ (j:Nat) (cs:List Value) (x:Scu.Message),css[j]? = some cs->ms[j]? = some x->MsgE w B cs x):∀ u ∈ css.flatten,u.oneCell'=true:=by
 intro u hu
 obtain ⟨cs,Ha,hu⟩:=List.mem_flatten.1 hu
 obtain ⟨j,hj⟩:=List.getElem?_of_mem Ha
 have Hb:j < ms.length:=by
  rcases Nat.lt_or_ge j css.length with h | h
  ·omega
  rw [List.getElem?_eq_none h] at hj;cases hj
 obtain ⟨lv,rfl,hs⟩:=he j cs _ hj (mH Hb)
 obtain ⟨A,n,c,rfl⟩:=hs.form
 simp only [msgV,List.mem_cons,List.not_mem_nil,or_false] at hu
 rcases hu with rfl | rfl | rfl | rfl | rfl | rfl | rfl | rfl <;> rfl
theorem zJr (g c k:Nat) (ms:List Scu.Message) (css:List (List Value)) (w:World) (base:Nat) (h:OwnR 137 8 80 MsgE w base (.slice (some ⟨g,0,none⟩) ms.length c) ms css) (hk:k < ms.length) (hm:ms.length<=1000) :
 Calls Tryd.prog 69 #[.slice (some ⟨g,0,none⟩) ms.length c,.int .i64 k,.int .i64 ((k:Int)+1)] w fun e w'=>e=.returned (.slice (some ⟨g,0,none⟩) (ms.length - 1) c)/\w'=((w.drew).setCells g (k*8) (css.drop (k+1)).flatten).setCells g ((ms.length - 1)*8) zeroM:=by
 obtain ⟨hb,cur,hB⟩:=zAw h.row
 obtain ⟨Hm,⟨h0,_⟩ | ⟨g',cap,cur',e,_,hh,Hr,Hs,He,Hj⟩⟩:=h.row
 ·cases h0
 cases e
 obtain ⟨news,Ha⟩:=mJ ((css.drop (k+1)).flatten)
 have Hk:∀ cs ∈ css.drop (k+1),cs.length=8:=fun cs He=>h.sz cs (List.mem_of_mem_drop He)
 have Hb:news.length=(ms.length - (k+1))*8:=by rw [Ha,zBm Hk,List.length_drop,h.len]
 have Hc:∀ j,j < ms.length*8->w.cell? ⟨g,j,none⟩=css.flatten[j]?:=fun j hj=>by
  have Hn:Blk w g 137 cur':=hh
  rw [Hn.cell,<- Hj,List.getElem?_take_of_lt hj]
  simp
 have Hg:∀ j,w.frozen? ⟨g,j,none⟩=false:=fun j=>hB.frozen j
 have Hd:∀ j,j < ms.length*8->(w.cell? ⟨g,j,none⟩).isSome=true:=fun j hj=>by
  rw [Hc j hj,mH (by rw [zBm h.sz,h.len];exact hj)]
  rfl
 have Hh:css.flatten=(css.take (k+1)).flatten ++ news:=by rw [Ha,<- List.flatten_append,List.take_append_drop]
 have Hl:(css.take (k+1)).flatten.length=(k+1)*8:=by
  rw [zBm (fun cs He=>h.sz cs (List.mem_of_mem_take He)),List.length_take,h.len,Nat.min_eq_left (by omega)]
 obtain ⟨A,hA,Hi⟩:∃ A:Addr,(if c=k+1 then some (⟨g,0,none⟩:Addr) else some ⟨g,(k+1)*8,none⟩)=some A/\Hid (∀ t u,news[t]? = some u->w.drew.cell? (A.add t)=some u):=by
  by_cases hc:c=k+1
  ·refine ⟨⟨g,0,none⟩,by simp [hc],fun t u hu=>?_⟩
   have:news.length=0:=by rw [Hb];omega
   rw [List.length_eq_zero_iff.1 this] at hu
   simp at hu
  refine ⟨⟨g,(k+1)*8,none⟩,by simp [hc],fun t u hu=>?_⟩
  have ht:t < news.length:=(List.getElem?_eq_some_iff.1 hu).1
  rw [Addr.add_lit]
  show w.cell? _=_
  rw [Hc _ (by rw [Hb] at ht;omega),Hh,List.getElem?_append_right (by omega),Hl,show (k+1)*8+t - (k+1)*8=t by omega]
  exact hu
 have s1:Hid (news.length=(ms.length - (k+1))*8):=Hb
 have s2:Hid (∀ u ∈ news,u.oneCell'=true):=fun u hu=>zWd h.len h.each u (by rw [Hh];exact List.mem_append_right _ hu)
 have s3:Hid (∀ t,t < news.length->(w.drew.cell? ⟨g,0+k*8+t,none⟩).isSome=true/\w.drew.frozen? ⟨g,0+k*8+t,none⟩=false):=fun t ht=>by
  rw [Hb] at ht
  rw [Nat.zero_add]
  exact ⟨Hd _ (by omega),Hg _⟩
 obtain ⟨i0,z0,Ho,Ht,Hp,Hu,Hv⟩:=zLu.2.2
 obtain ⟨W1,Hf⟩:=mJ (w.drew.setCells g (0+k*8) news)
 have e1:k+(ms.length - (k+1))=ms.length - 1:=by omega
 have e2:ms.length - (k+(ms.length - (k+1)))=1:=by omega
 have Hw:∀ ty,(Builtin.clear_ #[27] ty #[.slice (some ⟨g,(k+(ms.length - (k+1)))*8,none⟩) (ms.length - (k+(ms.length - (k+1)))) (c - (k+(ms.length - (k+1))))]).run Tryd.prog W1=.ok (.tuple #[]) (W1.setCells g ((ms.length - 1)*8) zeroM):=fun ty=>by
  rw [e2,e1]
  exact zMa W1 ty g _ _ (fun j hj=>by
   rw [Hf]
   exact World.isSome_setCells g news _ _ _ (Hd _ (by omega))) (fun j hj=>by rw [Hf,World.frozen?_setCells];exact Hg _)
 have E1:=mA e1
 clear e1 e2
 have hW:Hid (W1=w.drew.setCells g (0+k*8) news):=Hf
 have hN:Hid (news=(css.drop (k+1)).flatten):=Ha
 have Hx:k<=c:=by omega
 have Hq:k+1<=c:=by omega
 have Hy:(0:Int)<=(k:Int)+1:=by omega
 have Hz:(k:Int)+1<=(ms.length:Int):=by omega
 have Ka:((k:Int) == (k:Int)+1)=false:=by rw [beq_eq_false_iff_ne];omega
 clear Hf Ha Hb Hc Hg Hd Hh Hl Hj He hB hh Hm Hk
 go_enter Tryd.func69,Tryd.ntmps69
 go_wp2_with fail
 go_region_law (refine step_append_room rfl (.tmp 22) (.tmp 25) 27 rfl 137 i0 8 Tryd.underlying27 Ho Hp g 0 k c (by simp [Act.eval,Act.put]) A (ms.length - (k+1)) (c - (k+1)) news (by simp [Act.eval,Act.put]) s1.out Hi.out s2.out (by omega) s3.out ?_;rw [<- hW.out])
 go_wp2
 go_ret
 exact ⟨zAb (congrArg (fun n=>Value.slice (some ⟨g,0,none⟩) n c) E1.out),by rw [hW.out,hN.out,Nat.zero_add]⟩
def signs : List Nat := [104, 97, 114, 110, 101, 115, 115, 32, 99, 98, 57, 99, 53, 51, 48, 101, 48, 99, 101, 100, 53, 53, 48, 55, 55, 55, 98, 54, 49, 57, 54, 49, 49, 102, 102, 51, 55, 100, 54, 53, 99, 99, 98, 99, 53, 57, 102, 101, 54, 98, 54, 49, 52, 100, 97, 56, 56, 101, 54, 52, 101, 98, 102, 98, 99, 55, 98, 55, 57, 52, 48, 100, 32, 99, 117, 116, 32, 97, 116, 32, 115, 99, 117, 108, 108, 105, 110, 103, 47, 115, 99, 117, 108, 108, 105, 110, 103, 107, 101, 101, 112, 46, 78, 101, 116, 115, 71, 111, 111, 100, 32, 115, 99, 117, 108, 108, 105, 110, 103, 47, 115, 99, 117, 108, 108, 105, 110, 103, 116, 111, 112, 46, 84, 111, 112, 65, 103, 114, 101, 101, 32, 115, 99, 117, 108, 108, 105, 110, 103, 47, 115, 99, 117, 108, 108, 105, 110, 103, 116, 111, 112, 46, 84, 111, 112, 83, 116, 97, 121, 115, 32, 115, 99, 117, 108, 108, 105, 110, 103, 47, 115, 99, 117, 108, 108, 105, 110, 103, 116, 111, 112, 46, 84, 111, 112, 84, 111, 108, 100, 32, 115, 99, 117, 108, 108, 105, 110, 103, 47, 115, 99, 117, 108, 108, 105, 110, 103, 116, 111, 112, 46, 84, 111, 112, 79, 114, 100, 101, 114, 32, 115, 99, 117, 108, 108, 105, 110, 103, 47, 115, 99, 117, 108, 108, 105, 110, 103, 116, 111, 112, 46, 84, 111, 112, 76, 101, 97, 100, 101, 114, 115, 32, 115, 99, 117, 108, 108, 105, 110, 103, 47, 115, 99, 117, 108, 108, 105, 110, 103, 116, 111, 112, 46, 84, 111, 112, 67, 114, 97, 115, 104, 32, 115, 99, 117, 108, 108, 105, 110, 103, 47, 115, 99, 117, 108, 108, 105, 110, 103, 116, 111, 112, 46, 84, 111, 112, 84, 119, 105, 99, 101]
theorem zWe : Tryd.prog.initOrder = String.ofList (signs.map Char.ofNat) := by kernel_rfl
theorem zRo : Tryd.prog.initOrder.toList = signs.map Char.ofNat := by rw [zWe]; exact String.toList_ofList
def words : List (List Nat) := [[99, 117, 116], [97, 116], [115, 99, 117, 108, 108, 105, 110, 103, 47, 115, 99, 117, 108, 108, 105, 110, 103, 107, 101, 101, 112, 46, 78, 101, 116, 115, 71, 111, 111, 100], [115, 99, 117, 108, 108, 105, 110, 103, 47, 115, 99, 117, 108, 108, 105, 110, 103, 116, 111, 112, 46, 84, 111, 112, 65, 103, 114, 101, 101], [115, 99, 117, 108, 108, 105, 110, 103, 47, 115, 99, 117, 108, 108, 105, 110, 103, 116, 111, 112, 46, 84, 111, 112, 83, 116, 97, 121, 115], [115, 99, 117, 108, 108, 105, 110, 103, 47, 115, 99, 117, 108, 108, 105, 110, 103, 116, 111, 112, 46, 84, 111, 112, 84, 111, 108, 100], [115, 99, 117, 108, 108, 105, 110, 103, 47, 115, 99, 117, 108, 108, 105, 110, 103, 116, 111, 112, 46, 84, 111, 112, 79, 114, 100, 101, 114], [115, 99, 117, 108, 108, 105, 110, 103, 47, 115, 99, 117, 108, 108, 105, 110, 103, 116, 111, 112, 46, 84, 111, 112, 76, 101, 97, 100, 101, 114, 115], [115, 99, 117, 108, 108, 105, 110, 103, 47, 115, 99, 117, 108, 108, 105, 110, 103, 116, 111, 112, 46, 84, 111, 112, 67, 114, 97, 115, 104], [115, 99, 117, 108, 108, 105, 110, 103, 47, 115, 99, 117, 108, 108, 105, 110, 103, 116, 111, 112, 46, 84, 111, 112, 84, 119, 105, 99, 101]]
theorem zMb : behindMainWord (wordsSigns Tryd.prog.initOrder.toList) = words.map (·.map Char.ofNat) := by
  rw [zRo]
  kernel_rfl
def makeAt (P : Program) (W : List (List Char)) : Option Make := match W with
  | c :: rest => if c == "gc".toList || c == "spec".toList then some .whole else if c == "cut".toList || (c == "finals".toList && rest.head? == some "cut".toList) then some .cut else if c == "carried".toList then some .carried else if P.headLifts.isEmpty then none else some (.lifted P.headLifts)
  | [] => none
def mayAt (P : Program) (W : List (List Char)) : Bool := match W with
  | c :: rest =>
    ((c == "gc".toList || c == "spec".toList) && (rest.isEmpty || rest.head? == some "stop".toList)) ||
    (c == "carried".toList && rest.take 2 == ["gc".toList, "cut".toList] && !P.laysLater && !P.bearsReflect) ||
    ((stripLifts liftWords (c :: rest)).2.head? == some "cut".toList &&
      ((stripLifts liftWords (c :: rest)).1.contains "finals" || !P.laysLater) && ((stripLifts liftWords (c :: rest)).1.contains "reflectrows" || !P.bearsReflect) &&
      ((stripLifts liftWords (c :: rest)).1.contains "reflectrows" || !(stripLifts liftWords (c :: rest)).1.contains "leanrows") &&
      P.doorFits (stripLifts liftWords (c :: rest)).1)
  | [] => false
def liftsAt (ws : List (List Char)) : Bool :=
  (ws.head? == some "carried".toList && ws.take 3 != ["carried".toList, "gc".toList, "cut".toList]) || (if (stripLifts liftWords ws).2.head? == some "cut".toList then (stripLifts liftWords ws).1 else []).contains "finals"
theorem zZm {P : Program} {W : List (List Char)} (h : behindMainWord (wordsSigns P.initOrder.toList) = W) : P.make = makeAt P W := by subst h; rfl
theorem yBg {P : Program} {W : List (List Char)} (h : behindMainWord (wordsSigns P.initOrder.toList) = W) : P.mayEnter = mayAt P W := by subst h; rfl
theorem zWf {P : Program} {W : List (List Char)} (h : behindMainWord (wordsSigns P.initOrder.toList) = W) : P.liftsFinal = liftsAt W := by subst h; rfl
theorem zRp : Tryd.prog.mayEnter = true := (yBg zMb).trans (by kernel_rfl)
theorem yBh : Tryd.prog.make = some .cut := (zZm zMb).trans (by kernel_rfl)
theorem zZn : Tryd.prog.liftsFinal = false := (zWf zMb).trans (by kernel_rfl)
theorem yBi : laidOutB Tryd.prog = true := by kernel_rfl
theorem yBj : mapsRowed Tryd.prog = true := by kernel_rfl
theorem yBk : Tryd.prog.plainKeys = true := by kernel_rfl
theorem zZo : Tryd.prog.stopsHeard = true := by kernel_rfl
theorem zZp : Tryd.prog.stops = [] := by kernel_rfl
theorem zZq : Tryd.prog.stopKnobs = [] := by kernel_rfl
/-- The closed facts of a row, out of those of the program and what is left of them. -/
theorem zFt {f : FuncId} {fn : Func} {s : ChangeSpec} {c : OpenClaim} (hm : c.make = .cut) (hl : c.lifted = false) (hp : c.plainKeys = true) (hst : c.stops = []) (hk : c.knobs = []) (hsh : c.shortTexts = none)
    (h1 : (c.wf (OpenSpec.ofChange s) && (fn.params.all (Tryd.prog.readableRec ·) && namedTie Tryd.prog c.named s.vars)) = true)
    (h2 : (c.inPlace == Tryd.prog.inPlace f) = true) (h3 : (c.unfollowed == Tryd.prog.unfollowed f) = true) (h4 : (c.recurses == Tryd.prog.recurses f) = true) (h5 : (c.named == Tryd.prog.varsNamed f) = true)
    (h6 : ((c.maps == (fn.params.toList ++ s.plain.varTypes Tryd.prog).any (Tryd.prog.mapsRec ·)) && (c.ifaces == (fn.params.toList ++ s.plain.varTypes Tryd.prog).any (Tryd.prog.ifacesRec ·)) && (c.mapsOut == Tryd.prog.mapsAmong fn.resultTypes.toList) &&
      (c.loops == (fn.params.toList ++ s.plain.varTypes Tryd.prog).any (Tryd.prog.loopsFrom ·)) && (c.wideKeys == (fn.params.toList ++ s.plain.varTypes Tryd.prog ++ fn.resultTypes.toList).any (Tryd.prog.wideKeysFrom ·)) &&
      s.vars.all (Tryd.prog.varReadable ·) && fn.resultTypes.all (fun t => Tryd.prog.readableRec t && decide (t < Tryd.prog.types.size)) && (c.ifacesOut == fn.resultTypes.toList.any (Tryd.prog.ifacesRec ·)) && (c.loopsOut == fn.resultTypes.toList.any (Tryd.prog.loopsFrom ·))) = true)
    (h7 : ((c.kinds == (if c.domain.isEmpty then [] else fn.params.toList.map fun t => match Tryd.prog.underlying t with | some (.int k) => some k | _ => none)) && (c.pinned == c.pinnedBy) &&
      ((c.veiled == (fn.params.toList ++ s.plain.varTypes Tryd.prog ++ fn.resultTypes.toList).any (Tryd.prog.veiledRec ·)) && c.veiledFits Tryd.prog fn.params.toList (fn.params.toList ++ s.plain.varTypes Tryd.prog ++ fn.resultTypes.toList))) = true) :
    joinedFacts Tryd.prog f fn s c = true := by
  simp only [Bool.and_eq_true] at h1 h6 h7
  obtain ⟨a1, a2, a3⟩ := h1
  obtain ⟨⟨⟨⟨⟨⟨⟨⟨b1, b2⟩, b3⟩, b4⟩, b5⟩, b6⟩, b7⟩, b8⟩, b9⟩ := h6
  obtain ⟨⟨c1, c2⟩, c3, c4⟩ := h7
  unfold joinedFacts
  simp only [Bool.and_eq_true]
  refine ⟨⟨⟨⟨⟨⟨⟨⟨⟨⟨⟨⟨⟨⟨⟨⟨⟨⟨⟨⟨⟨⟨⟨⟨⟨⟨⟨⟨⟨⟨⟨a1, yBi⟩, yBj⟩, a2⟩, a3⟩, ?_⟩, ?_⟩, ?_⟩, ?_⟩, h2⟩, h3⟩, h4⟩, h5⟩, b1⟩, b2⟩, b3⟩, b4⟩, b5⟩, b6⟩, b7⟩, b8⟩, b9⟩, ?_⟩, ?_⟩, zZo⟩, zRp⟩, ?_⟩, ?_⟩, c1⟩, c2⟩, c3⟩, c4⟩
  · rw [hst]; rfl
  · rw [zZp]; rfl
  · rw [hk]; rfl
  · rw [zZq]; rfl
  · rw [hp, yBk]; rfl
  · rw [hsh]; rfl
  · rw [hl, zZn]; rfl
  · rw [yBh, hm]; exact beq_self_eq_true _
end Go.Proofs.YtnpphdaakookcaaDoor

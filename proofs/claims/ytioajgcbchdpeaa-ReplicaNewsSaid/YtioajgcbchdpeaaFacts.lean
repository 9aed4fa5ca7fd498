/- Closed facts on the program that every row of this seat asks for: each a theorem of its own. -/
import Derived.Test.YtioajgcbchdpeaaRows
import Derived.WalkKit
import Derived.ProofKit
import Derived.ClosedOfChecked
namespace Go.Proofs.Ytioajgcbchdpeaa
set_option maxRecDepth 1000000
def signs : List Nat := [104, 97, 114, 110, 101, 115, 115, 32, 101, 52, 50, 102, 49, 57, 51, 54, 49, 50, 101, 56, 55, 49, 54, 53, 51, 55, 50, 57, 56, 98, 48, 55, 53, 48, 52, 98, 48, 49, 49, 97, 102, 97, 49, 50, 99, 98, 102, 102, 56, 50, 102, 102, 52, 99, 100, 101, 101, 99, 97, 53, 49, 49, 53, 97, 53, 54, 102, 52, 102, 54, 52, 53, 32, 99, 117, 116, 32, 97, 116, 32, 115, 99, 117, 108, 108, 105, 110, 103, 47, 115, 99, 117, 108, 108, 105, 110, 103, 108, 97, 119, 46, 78, 97, 109, 101, 115, 32, 115, 99, 117, 108, 108, 105, 110, 103, 47, 115, 99, 117, 108, 108, 105, 110, 103, 108, 97, 119, 46, 82, 101, 112, 108, 105, 99, 97, 67, 111, 112, 105, 101, 115, 32, 115, 99, 117, 108, 108, 105, 110, 103, 47, 115, 99, 117, 108, 108, 105, 110, 103, 108, 97, 119, 46, 86, 111, 108, 117, 109, 101, 68, 111, 101, 115, 32, 115, 99, 117, 108, 108, 105, 110, 103, 47, 115, 99, 117, 108, 108, 105, 110, 103, 108, 97, 119, 46, 82, 101, 112, 108, 105, 99, 97, 78, 101, 119, 115, 32, 115, 99, 117, 108, 108, 105, 110, 103, 47, 115, 99, 117, 108, 108, 105, 110, 103, 108, 97, 119, 46, 83, 116, 97, 103, 101, 69, 110, 99, 111, 100, 101, 115, 32, 115, 99, 117, 108, 108, 105, 110, 103, 47, 115, 99, 117, 108, 108, 105, 110, 103, 108, 97, 119, 46, 83, 116, 97, 103, 101, 68, 101, 99, 111, 100, 101, 115, 32, 115, 99, 117, 108, 108, 105, 110, 103, 47, 115, 99, 117, 108, 108, 105, 110, 103, 108, 97, 119, 46, 83, 116, 97, 103, 101, 78, 101, 119, 32, 115, 99, 117, 108, 108, 105, 110, 103, 47, 115, 99, 117, 108, 108, 105, 110, 103, 108, 97, 119, 46, 83, 116, 97, 103, 101, 76, 111, 97, 100, 115, 32, 115, 99, 117, 108, 108, 105, 110, 103, 47, 115, 99, 117, 108, 108, 105, 110, 103, 108, 97, 119, 46, 77, 97, 99, 104, 105, 110, 101, 65, 112, 112, 108, 105, 101, 115, 32, 115, 99, 117, 108, 108, 105, 110, 103, 47, 115, 99, 117, 108, 108, 105, 110, 103, 108, 97, 119, 46, 82, 101, 112, 108, 105, 99, 97, 84, 105, 99, 107, 115, 32, 115, 99, 117, 108, 108, 105, 110, 103, 47, 115, 99, 117, 108, 108, 105, 110, 103, 108, 97, 119, 46, 82, 101, 112, 108, 105, 99, 97, 84, 97, 107, 101, 115, 32, 115, 99, 117, 108, 108, 105, 110, 103, 47, 115, 99, 117, 108, 108, 105, 110, 103, 108, 97, 119, 46, 82, 101, 112, 108, 105, 99, 97, 65, 108, 97, 114, 109, 115, 32, 115, 99, 117, 108, 108, 105, 110, 103, 47, 115, 99, 117, 108, 108, 105, 110, 103, 108, 97, 119, 46, 77, 97, 99, 104, 105, 110, 101, 80, 108, 97, 121, 115, 32, 115, 99, 117, 108, 108, 105, 110, 103, 47, 115, 99, 117, 108, 108, 105, 110, 103, 108, 97, 119, 46, 83, 116, 97, 103, 101, 83, 116, 111, 114, 101, 115, 32, 115, 99, 117, 108, 108, 105, 110, 103, 47, 115, 99, 117, 108, 108, 105, 110, 103, 108, 97, 119, 46, 82, 101, 112, 108, 105, 99, 97, 72, 101, 97, 114, 115]
theorem order_eq : Try.prog.initOrder = String.ofList (signs.map Char.ofNat) := by kernel_rfl
theorem order_list : Try.prog.initOrder.toList = signs.map Char.ofNat := by rw [order_eq]; exact String.toList_ofList
def words : List (List Nat) := [[99, 117, 116], [97, 116], [115, 99, 117, 108, 108, 105, 110, 103, 47, 115, 99, 117, 108, 108, 105, 110, 103, 108, 97, 119, 46, 78, 97, 109, 101, 115], [115, 99, 117, 108, 108, 105, 110, 103, 47, 115, 99, 117, 108, 108, 105, 110, 103, 108, 97, 119, 46, 82, 101, 112, 108, 105, 99, 97, 67, 111, 112, 105, 101, 115], [115, 99, 117, 108, 108, 105, 110, 103, 47, 115, 99, 117, 108, 108, 105, 110, 103, 108, 97, 119, 46, 86, 111, 108, 117, 109, 101, 68, 111, 101, 115], [115, 99, 117, 108, 108, 105, 110, 103, 47, 115, 99, 117, 108, 108, 105, 110, 103, 108, 97, 119, 46, 82, 101, 112, 108, 105, 99, 97, 78, 101, 119, 115], [115, 99, 117, 108, 108, 105, 110, 103, 47, 115, 99, 117, 108, 108, 105, 110, 103, 108, 97, 119, 46, 83, 116, 97, 103, 101, 69, 110, 99, 111, 100, 101, 115], [115, 99, 117, 108, 108, 105, 110, 103, 47, 115, 99, 117, 108, 108, 105, 110, 103, 108, 97, 119, 46, 83, 116, 97, 103, 101, 68, 101, 99, 111, 100, 101, 115], [115, 99, 117, 108, 108, 105, 110, 103, 47, 115, 99, 117, 108, 108, 105, 110, 103, 108, 97, 119, 46, 83, 116, 97, 103, 101, 78, 101, 119], [115, 99, 117, 108, 108, 105, 110, 103, 47, 115, 99, 117, 108, 108, 105, 110, 103, 108, 97, 119, 46, 83, 116, 97, 103, 101, 76, 111, 97, 100, 115], [115, 99, 117, 108, 108, 105, 110, 103, 47, 115, 99, 117, 108, 108, 105, 110, 103, 108, 97, 119, 46, 77, 97, 99, 104, 105, 110, 101, 65, 112, 112, 108, 105, 101, 115], [115, 99, 117, 108, 108, 105, 110, 103, 47, 115, 99, 117, 108, 108, 105, 110, 103, 108, 97, 119, 46, 82, 101, 112, 108, 105, 99, 97, 84, 105, 99, 107, 115], [115, 99, 117, 108, 108, 105, 110, 103, 47, 115, 99, 117, 108, 108, 105, 110, 103, 108, 97, 119, 46, 82, 101, 112, 108, 105, 99, 97, 84, 97, 107, 101, 115], [115, 99, 117, 108, 108, 105, 110, 103, 47, 115, 99, 117, 108, 108, 105, 110, 103, 108, 97, 119, 46, 82, 101, 112, 108, 105, 99, 97, 65, 108, 97, 114, 109, 115], [115, 99, 117, 108, 108, 105, 110, 103, 47, 115, 99, 117, 108, 108, 105, 110, 103, 108, 97, 119, 46, 77, 97, 99, 104, 105, 110, 101, 80, 108, 97, 121, 115], [115, 99, 117, 108, 108, 105, 110, 103, 47, 115, 99, 117, 108, 108, 105, 110, 103, 108, 97, 119, 46, 83, 116, 97, 103, 101, 83, 116, 111, 114, 101, 115], [115, 99, 117, 108, 108, 105, 110, 103, 47, 115, 99, 117, 108, 108, 105, 110, 103, 108, 97, 119, 46, 82, 101, 112, 108, 105, 99, 97, 72, 101, 97, 114, 115]]
theorem words_eq : behindMainWord (wordsSigns Try.prog.initOrder.toList) = words.map (·.map Char.ofNat) := by
  rw [order_list]
  kernel_rfl
def makeAt (P : Program) (W : List (List Char)) : Option Make := match W with
  | c :: rest => if c == "gc".toList || c == "spec".toList then some .whole else if c == "cut".toList || (c == "finals".toList && rest.head? == some "cut".toList) then some .cut else if c == "carried".toList then some .carried else if P.headLifts.isEmpty then none else some (.lifted P.headLifts)
  | [] => none
def mayAt (P : Program) (W : List (List Char)) : Bool := match W with
  | c :: rest =>
    ((c == "gc".toList || c == "spec".toList) && (rest.isEmpty || rest.head? == some "stop".toList)) ||
    (c == "carried".toList && rest.take 2 == ["gc".toList, "cut".toList] && !P.laysLater && !P.bearsReflect) ||
    ((stripLifts liftWords (c :: rest)).2.head? == some "cut".toList &&
      ((stripLifts liftWords (c :: rest)).1.contains "finals" || !P.laysLater) && ((stripLifts liftWords (c :: rest)).1.contains "reflectrows" || !P.bearsReflect) &&
      ((stripLifts liftWords (c :: rest)).1.contains "reflectrows" || !(stripLifts liftWords (c :: rest)).1.contains "leanrows") &&
      P.doorFits (stripLifts liftWords (c :: rest)).1)
  | [] => false
def liftsAt (ws : List (List Char)) : Bool :=
  (ws.head? == some "carried".toList && ws.take 3 != ["carried".toList, "gc".toList, "cut".toList]) || (if (stripLifts liftWords ws).2.head? == some "cut".toList then (stripLifts liftWords ws).1 else []).contains "finals"
theorem make_at {P : Program} {W : List (List Char)} (h : behindMainWord (wordsSigns P.initOrder.toList) = W) : P.make = makeAt P W := by subst h; rfl
theorem may_at {P : Program} {W : List (List Char)} (h : behindMainWord (wordsSigns P.initOrder.toList) = W) : P.mayEnter = mayAt P W := by subst h; rfl
theorem lifts_at {P : Program} {W : List (List Char)} (h : behindMainWord (wordsSigns P.initOrder.toList) = W) : P.liftsFinal = liftsAt W := by subst h; rfl
theorem f_mayEnter : Try.prog.mayEnter = true := (may_at words_eq).trans (by kernel_rfl)
theorem f_make : Try.prog.make = some .cut := (make_at words_eq).trans (by kernel_rfl)
theorem f_lifts : Try.prog.liftsFinal = false := (lifts_at words_eq).trans (by kernel_rfl)
theorem f_laid : laidOutB Try.prog = true := by kernel_rfl
theorem f_maps : mapsRowed Try.prog = true := by kernel_rfl
theorem f_keys : Try.prog.plainKeys = true := by kernel_rfl
theorem f_heard : Try.prog.stopsHeard = true := by kernel_rfl
theorem f_stops : Try.prog.stops = [] := by kernel_rfl
theorem f_knobs : Try.prog.stopKnobs = [] := by kernel_rfl
/-- The closed facts of a row, out of those of the program and what is left of them. -/
theorem facts_of {f : FuncId} {fn : Func} {s : ChangeSpec} {c : OpenClaim} (hm : c.make = .cut) (hl : c.lifted = false) (hp : c.plainKeys = true) (hst : c.stops = []) (hk : c.knobs = []) (hsh : c.shortTexts = none)
    (h1 : (c.wf (OpenSpec.ofChange s) && (fn.params.all (Try.prog.readableRec ·) && namedTie Try.prog c.named s.vars)) = true)
    (h2 : (c.inPlace == Try.prog.inPlace f) = true) (h3 : (c.unfollowed == Try.prog.unfollowed f) = true) (h4 : (c.recurses == Try.prog.recurses f) = true) (h5 : (c.named == Try.prog.varsNamed f) = true)
    (h6 : ((c.maps == (fn.params.toList ++ s.plain.varTypes Try.prog).any (Try.prog.mapsRec ·)) && (c.ifaces == (fn.params.toList ++ s.plain.varTypes Try.prog).any (Try.prog.ifacesRec ·)) && (c.mapsOut == Try.prog.mapsAmong fn.resultTypes.toList) &&
      (c.loops == (fn.params.toList ++ s.plain.varTypes Try.prog).any (Try.prog.loopsFrom ·)) && (c.wideKeys == (fn.params.toList ++ s.plain.varTypes Try.prog ++ fn.resultTypes.toList).any (Try.prog.wideKeysFrom ·)) &&
      s.vars.all (Try.prog.varReadable ·) && fn.resultTypes.all (fun t => Try.prog.readableRec t && decide (t < Try.prog.types.size)) && (c.ifacesOut == fn.resultTypes.toList.any (Try.prog.ifacesRec ·)) && (c.loopsOut == fn.resultTypes.toList.any (Try.prog.loopsFrom ·))) = true)
    (h7 : ((c.kinds == (if c.domain.isEmpty then [] else fn.params.toList.map fun t => match Try.prog.underlying t with | some (.int k) => some k | _ => none)) && (c.pinned == c.pinnedBy) &&
      ((c.veiled == (fn.params.toList ++ s.plain.varTypes Try.prog ++ fn.resultTypes.toList).any (Try.prog.veiledRec ·)) && c.veiledFits Try.prog fn.params.toList (fn.params.toList ++ s.plain.varTypes Try.prog ++ fn.resultTypes.toList))) = true) :
    joinedFacts Try.prog f fn s c = true := by
  simp only [Bool.and_eq_true] at h1 h6 h7
  obtain ⟨a1, a2, a3⟩ := h1
  obtain ⟨⟨⟨⟨⟨⟨⟨⟨b1, b2⟩, b3⟩, b4⟩, b5⟩, b6⟩, b7⟩, b8⟩, b9⟩ := h6
  obtain ⟨⟨c1, c2⟩, c3, c4⟩ := h7
  unfold joinedFacts
  simp only [Bool.and_eq_true]
  refine ⟨⟨⟨⟨⟨⟨⟨⟨⟨⟨⟨⟨⟨⟨⟨⟨⟨⟨⟨⟨⟨⟨⟨⟨⟨⟨⟨⟨⟨⟨⟨a1, f_laid⟩, f_maps⟩, a2⟩, a3⟩, ?_⟩, ?_⟩, ?_⟩, ?_⟩, h2⟩, h3⟩, h4⟩, h5⟩, b1⟩, b2⟩, b3⟩, b4⟩, b5⟩, b6⟩, b7⟩, b8⟩, b9⟩, ?_⟩, ?_⟩, f_heard⟩, f_mayEnter⟩, ?_⟩, ?_⟩, c1⟩, c2⟩, c3⟩, c4⟩
  · rw [hst]; rfl
  · rw [f_stops]; rfl
  · rw [hk]; rfl
  · rw [f_knobs]; rfl
  · rw [hp, f_keys]; rfl
  · rw [hsh]; rfl
  · rw [hl, f_lifts]; rfl
  · rw [f_make, hm]; exact beq_self_eq_true _
end Go.Proofs.Ytioajgcbchdpeaa

/-
  No cell of these rows narrows 'for every input' (looked for: loops, veiled, ifaces, maps, wideKeys, modest, calm, conditions, laid).
  DERIVED. THE GIVEN ROWS OF THIS SEAT. 15 by the template 'for every input the law returns true; each argument reads behind the call as it read before'; 0 by the template 'total and deterministic' (their statements: YtioajgcbchdpeaaTotals.lean).
  GIVEN WITH THE SEED: the statements are not yours to turn. If you find one false, say at which input.
  Laid BY PROGRAM, IN A SANDBOX (cutbox-rows.mjs): the forced cells as the released guide's own fill.sh prints them over the translation b90cf647e079993f… (all of the seat's roots in one cut). By AI agents, Wed Nov 11 2026. No macro, syntax, notation, axiom, sorry.
-/
import Derived.Test.YtioajgcbchdpeaaChecked
import GoSem.Claim
import GoSem.ClaimJoined
import GoSem.ClaimMapViews
import Derived.JoinedTies
import Derived.KernelRfl
namespace Go.Proofs.Ytioajgcbchdpeaa
/- THE CELL 'sum', in the pinned program and in every row, IS THE sha256 OF THE DUMP (.gsa) THAT YtioajgcbchdpeaaProg.lean LOADS. Nothing in Lean hashes anything: it is a label: what it is worth is what the hold of that sum in a sandbox is worth. -/
noncomputable def Try.pinned : Pinned := { name := "ytioajgcbchdpeaa", sum := "b90cf647e079993f0ee7927dd1b4b1b325afc4c99afbc54e86cd27a61f1f29ee", checked := Try.checked }
namespace Rows
def none {H : Type} : Left H := { results := [], args := [] }

/-- 'scullinglaw.Names': WHATEVER THE INPUT: true; the input reads as it did. -/
def namesSpec : ChangeSpec := { name := "names", fn := fun _ => fun
  | [] => { results := [.lit (.bool true)], args := [] }
  | _ => none }
def namesRow : OpenClaim := { program := "ytioajgcbchdpeaa", sum := "b90cf647e079993f0ee7927dd1b4b1b325afc4c99afbc54e86cd27a61f1f29ee", func := "sculling/scullinglaw.Names", spec := "names", apart := false }
def NamesSaid : Prop := namesRow.holds Try.pinned (OpenSpec.ofChange namesSpec)

/-- ITS FALSE NEIGHBOUR: 'it returns false'. Refute it at one input. -/
def namesWrong : ChangeSpec := { name := "names", fn := fun _ => fun
  | [] => { results := [.lit (.bool false)], args := [] }
  | _ => none }
def NamesWrongFalsely : Prop := namesRow.holds Try.pinned (OpenSpec.ofChange namesWrong)

/-- 'scullinglaw.ReplicaCopies': WHATEVER THE INPUT: true; the input reads as it did. -/
def replicaCopiesSpec : ChangeSpec := { name := "replicaCopies", fn := fun _ => fun
  | [d] => { results := [.lit (.bool true)], args := [d] }
  | _ => none }
def replicaCopiesRow : OpenClaim := { program := "ytioajgcbchdpeaa", sum := "b90cf647e079993f0ee7927dd1b4b1b325afc4c99afbc54e86cd27a61f1f29ee", func := "sculling/scullinglaw.ReplicaCopies", spec := "replicaCopies", apart := false }
def ReplicaCopiesSaid : Prop := replicaCopiesRow.holds Try.pinned (OpenSpec.ofChange replicaCopiesSpec)

/-- ITS FALSE NEIGHBOUR: 'it returns false'. Refute it at one input. -/
def replicaCopiesWrong : ChangeSpec := { name := "replicaCopies", fn := fun _ => fun
  | [d] => { results := [.lit (.bool false)], args := [d] }
  | _ => none }
def ReplicaCopiesWrongFalsely : Prop := replicaCopiesRow.holds Try.pinned (OpenSpec.ofChange replicaCopiesWrong)

/-- 'scullinglaw.VolumeDoes': WHATEVER THE INPUT: true; the input reads as it did. -/
def volumeDoesSpec : ChangeSpec := { name := "volumeDoes", fn := fun _ => fun
  | [d1, d2] => { results := [.lit (.bool true)], args := [d1, d2] }
  | _ => none }
def volumeDoesRow : OpenClaim := { program := "ytioajgcbchdpeaa", sum := "b90cf647e079993f0ee7927dd1b4b1b325afc4c99afbc54e86cd27a61f1f29ee", func := "sculling/scullinglaw.VolumeDoes", spec := "volumeDoes", unfollowed := true, recurses := true, apart := false }
def VolumeDoesSaid : Prop := volumeDoesRow.holds Try.pinned (OpenSpec.ofChange volumeDoesSpec)

/-- ITS FALSE NEIGHBOUR: 'it returns false'. Refute it at one input. -/
def volumeDoesWrong : ChangeSpec := { name := "volumeDoes", fn := fun _ => fun
  | [d1, d2] => { results := [.lit (.bool false)], args := [d1, d2] }
  | _ => none }
def VolumeDoesWrongFalsely : Prop := volumeDoesRow.holds Try.pinned (OpenSpec.ofChange volumeDoesWrong)

/-- 'scullinglaw.ReplicaNews': WHATEVER THE INPUT: true; the input reads as it did. -/
def replicaNewsSpec : ChangeSpec := { name := "replicaNews", fn := fun _ => fun
  | [d1, d2] => { results := [.lit (.bool true)], args := [d1, d2] }
  | _ => none }
def replicaNewsRow : OpenClaim := { program := "ytioajgcbchdpeaa", sum := "b90cf647e079993f0ee7927dd1b4b1b325afc4c99afbc54e86cd27a61f1f29ee", func := "sculling/scullinglaw.ReplicaNews", spec := "replicaNews", apart := false }
def ReplicaNewsSaid : Prop := replicaNewsRow.holds Try.pinned (OpenSpec.ofChange replicaNewsSpec)

/-- ITS FALSE NEIGHBOUR: 'it returns false'. Refute it at one input. -/
def replicaNewsWrong : ChangeSpec := { name := "replicaNews", fn := fun _ => fun
  | [d1, d2] => { results := [.lit (.bool false)], args := [d1, d2] }
  | _ => none }
def ReplicaNewsWrongFalsely : Prop := replicaNewsRow.holds Try.pinned (OpenSpec.ofChange replicaNewsWrong)

/-- 'scullinglaw.StageEncodes': WHATEVER THE INPUT: true; the input reads as it did. -/
def stageEncodesSpec : ChangeSpec := { name := "stageEncodes", fn := fun _ => fun
  | [d1, d2] => { results := [.lit (.bool true)], args := [d1, d2] }
  | _ => none }
def stageEncodesRow : OpenClaim := { program := "ytioajgcbchdpeaa", sum := "b90cf647e079993f0ee7927dd1b4b1b325afc4c99afbc54e86cd27a61f1f29ee", func := "sculling/scullinglaw.StageEncodes", spec := "stageEncodes", apart := false }
def StageEncodesSaid : Prop := stageEncodesRow.holds Try.pinned (OpenSpec.ofChange stageEncodesSpec)

/-- ITS FALSE NEIGHBOUR: 'it returns false'. Refute it at one input. -/
def stageEncodesWrong : ChangeSpec := { name := "stageEncodes", fn := fun _ => fun
  | [d1, d2] => { results := [.lit (.bool false)], args := [d1, d2] }
  | _ => none }
def StageEncodesWrongFalsely : Prop := stageEncodesRow.holds Try.pinned (OpenSpec.ofChange stageEncodesWrong)

/-- 'scullinglaw.StageDecodes': WHATEVER THE INPUT: true; the input reads as it did. -/
def stageDecodesSpec : ChangeSpec := { name := "stageDecodes", fn := fun _ => fun
  | [d] => { results := [.lit (.bool true)], args := [d] }
  | _ => none }
def stageDecodesRow : OpenClaim := { program := "ytioajgcbchdpeaa", sum := "b90cf647e079993f0ee7927dd1b4b1b325afc4c99afbc54e86cd27a61f1f29ee", func := "sculling/scullinglaw.StageDecodes", spec := "stageDecodes", apart := false }
def StageDecodesSaid : Prop := stageDecodesRow.holds Try.pinned (OpenSpec.ofChange stageDecodesSpec)

/-- ITS FALSE NEIGHBOUR: 'it returns false'. Refute it at one input. -/
def stageDecodesWrong : ChangeSpec := { name := "stageDecodes", fn := fun _ => fun
  | [d] => { results := [.lit (.bool false)], args := [d] }
  | _ => none }
def StageDecodesWrongFalsely : Prop := stageDecodesRow.holds Try.pinned (OpenSpec.ofChange stageDecodesWrong)

/-- 'scullinglaw.StageNew': WHATEVER THE INPUT: true; the input reads as it did. -/
def stageNewSpec : ChangeSpec := { name := "stageNew", fn := fun _ => fun
  | [] => { results := [.lit (.bool true)], args := [] }
  | _ => none }
def stageNewRow : OpenClaim := { program := "ytioajgcbchdpeaa", sum := "b90cf647e079993f0ee7927dd1b4b1b325afc4c99afbc54e86cd27a61f1f29ee", func := "sculling/scullinglaw.StageNew", spec := "stageNew", apart := false }
def StageNewSaid : Prop := stageNewRow.holds Try.pinned (OpenSpec.ofChange stageNewSpec)

/-- ITS FALSE NEIGHBOUR: 'it returns false'. Refute it at one input. -/
def stageNewWrong : ChangeSpec := { name := "stageNew", fn := fun _ => fun
  | [] => { results := [.lit (.bool false)], args := [] }
  | _ => none }
def StageNewWrongFalsely : Prop := stageNewRow.holds Try.pinned (OpenSpec.ofChange stageNewWrong)

/-- 'scullinglaw.StageLoads': WHATEVER THE INPUT: true; the input reads as it did. -/
def stageLoadsSpec : ChangeSpec := { name := "stageLoads", fn := fun _ => fun
  | [d] => { results := [.lit (.bool true)], args := [d] }
  | _ => none }
def stageLoadsRow : OpenClaim := { program := "ytioajgcbchdpeaa", sum := "b90cf647e079993f0ee7927dd1b4b1b325afc4c99afbc54e86cd27a61f1f29ee", func := "sculling/scullinglaw.StageLoads", spec := "stageLoads", apart := false }
def StageLoadsSaid : Prop := stageLoadsRow.holds Try.pinned (OpenSpec.ofChange stageLoadsSpec)

/-- ITS FALSE NEIGHBOUR: 'it returns false'. Refute it at one input. -/
def stageLoadsWrong : ChangeSpec := { name := "stageLoads", fn := fun _ => fun
  | [d] => { results := [.lit (.bool false)], args := [d] }
  | _ => none }
def StageLoadsWrongFalsely : Prop := stageLoadsRow.holds Try.pinned (OpenSpec.ofChange stageLoadsWrong)

/-- 'scullinglaw.MachineApplies': WHATEVER THE INPUT: true; the input reads as it did. -/
def machineAppliesSpec : ChangeSpec := { name := "machineApplies", fn := fun _ => fun
  | [d1, d2] => { results := [.lit (.bool true)], args := [d1, d2] }
  | _ => none }
def machineAppliesRow : OpenClaim := { program := "ytioajgcbchdpeaa", sum := "b90cf647e079993f0ee7927dd1b4b1b325afc4c99afbc54e86cd27a61f1f29ee", func := "sculling/scullinglaw.MachineApplies", spec := "machineApplies", unfollowed := true, recurses := true, apart := false }
def MachineAppliesSaid : Prop := machineAppliesRow.holds Try.pinned (OpenSpec.ofChange machineAppliesSpec)

/-- ITS FALSE NEIGHBOUR: 'it returns false'. Refute it at one input. -/
def machineAppliesWrong : ChangeSpec := { name := "machineApplies", fn := fun _ => fun
  | [d1, d2] => { results := [.lit (.bool false)], args := [d1, d2] }
  | _ => none }
def MachineAppliesWrongFalsely : Prop := machineAppliesRow.holds Try.pinned (OpenSpec.ofChange machineAppliesWrong)

/-- 'scullinglaw.ReplicaTicks': WHATEVER THE INPUT: true; the input reads as it did. -/
def replicaTicksSpec : ChangeSpec := { name := "replicaTicks", fn := fun _ => fun
  | [d] => { results := [.lit (.bool true)], args := [d] }
  | _ => none }
def replicaTicksRow : OpenClaim := { program := "ytioajgcbchdpeaa", sum := "b90cf647e079993f0ee7927dd1b4b1b325afc4c99afbc54e86cd27a61f1f29ee", func := "sculling/scullinglaw.ReplicaTicks", spec := "replicaTicks", apart := false }
def ReplicaTicksSaid : Prop := replicaTicksRow.holds Try.pinned (OpenSpec.ofChange replicaTicksSpec)

/-- ITS FALSE NEIGHBOUR: 'it returns false'. Refute it at one input. -/
def replicaTicksWrong : ChangeSpec := { name := "replicaTicks", fn := fun _ => fun
  | [d] => { results := [.lit (.bool false)], args := [d] }
  | _ => none }
def ReplicaTicksWrongFalsely : Prop := replicaTicksRow.holds Try.pinned (OpenSpec.ofChange replicaTicksWrong)

/-- 'scullinglaw.ReplicaTakes': WHATEVER THE INPUT: true; the input reads as it did. -/
def replicaTakesSpec : ChangeSpec := { name := "replicaTakes", fn := fun _ => fun
  | [d1, d2] => { results := [.lit (.bool true)], args := [d1, d2] }
  | _ => none }
def replicaTakesRow : OpenClaim := { program := "ytioajgcbchdpeaa", sum := "b90cf647e079993f0ee7927dd1b4b1b325afc4c99afbc54e86cd27a61f1f29ee", func := "sculling/scullinglaw.ReplicaTakes", spec := "replicaTakes", apart := false }
def ReplicaTakesSaid : Prop := replicaTakesRow.holds Try.pinned (OpenSpec.ofChange replicaTakesSpec)

/-- ITS FALSE NEIGHBOUR: 'it returns false'. Refute it at one input. -/
def replicaTakesWrong : ChangeSpec := { name := "replicaTakes", fn := fun _ => fun
  | [d1, d2] => { results := [.lit (.bool false)], args := [d1, d2] }
  | _ => none }
def ReplicaTakesWrongFalsely : Prop := replicaTakesRow.holds Try.pinned (OpenSpec.ofChange replicaTakesWrong)

/-- 'scullinglaw.ReplicaAlarms': WHATEVER THE INPUT: true; the input reads as it did. -/
def replicaAlarmsSpec : ChangeSpec := { name := "replicaAlarms", fn := fun _ => fun
  | [d] => { results := [.lit (.bool true)], args := [d] }
  | _ => none }
def replicaAlarmsRow : OpenClaim := { program := "ytioajgcbchdpeaa", sum := "b90cf647e079993f0ee7927dd1b4b1b325afc4c99afbc54e86cd27a61f1f29ee", func := "sculling/scullinglaw.ReplicaAlarms", spec := "replicaAlarms", apart := false }
def ReplicaAlarmsSaid : Prop := replicaAlarmsRow.holds Try.pinned (OpenSpec.ofChange replicaAlarmsSpec)

/-- ITS FALSE NEIGHBOUR: 'it returns false'. Refute it at one input. -/
def replicaAlarmsWrong : ChangeSpec := { name := "replicaAlarms", fn := fun _ => fun
  | [d] => { results := [.lit (.bool false)], args := [d] }
  | _ => none }
def ReplicaAlarmsWrongFalsely : Prop := replicaAlarmsRow.holds Try.pinned (OpenSpec.ofChange replicaAlarmsWrong)

/-- 'scullinglaw.MachinePlays': WHATEVER THE INPUT: true; the input reads as it did. -/
def machinePlaysSpec : ChangeSpec := { name := "machinePlays", fn := fun _ => fun
  | [d] => { results := [.lit (.bool true)], args := [d] }
  | _ => none }
def machinePlaysRow : OpenClaim := { program := "ytioajgcbchdpeaa", sum := "b90cf647e079993f0ee7927dd1b4b1b325afc4c99afbc54e86cd27a61f1f29ee", func := "sculling/scullinglaw.MachinePlays", spec := "machinePlays", unfollowed := true, recurses := true, apart := false }
def MachinePlaysSaid : Prop := machinePlaysRow.holds Try.pinned (OpenSpec.ofChange machinePlaysSpec)

/-- ITS FALSE NEIGHBOUR: 'it returns false'. Refute it at one input. -/
def machinePlaysWrong : ChangeSpec := { name := "machinePlays", fn := fun _ => fun
  | [d] => { results := [.lit (.bool false)], args := [d] }
  | _ => none }
def MachinePlaysWrongFalsely : Prop := machinePlaysRow.holds Try.pinned (OpenSpec.ofChange machinePlaysWrong)

/-- 'scullinglaw.StageStores': WHATEVER THE INPUT: true; the input reads as it did. -/
def stageStoresSpec : ChangeSpec := { name := "stageStores", fn := fun _ => fun
  | [d1, d2, d3] => { results := [.lit (.bool true)], args := [d1, d2, d3] }
  | _ => none }
def stageStoresRow : OpenClaim := { program := "ytioajgcbchdpeaa", sum := "b90cf647e079993f0ee7927dd1b4b1b325afc4c99afbc54e86cd27a61f1f29ee", func := "sculling/scullinglaw.StageStores", spec := "stageStores", apart := false }
def StageStoresSaid : Prop := stageStoresRow.holds Try.pinned (OpenSpec.ofChange stageStoresSpec)

/-- ITS FALSE NEIGHBOUR: 'it returns false'. Refute it at one input. -/
def stageStoresWrong : ChangeSpec := { name := "stageStores", fn := fun _ => fun
  | [d1, d2, d3] => { results := [.lit (.bool false)], args := [d1, d2, d3] }
  | _ => none }
def StageStoresWrongFalsely : Prop := stageStoresRow.holds Try.pinned (OpenSpec.ofChange stageStoresWrong)

/-- 'scullinglaw.ReplicaHears': WHATEVER THE INPUT: true; the input reads as it did. -/
def replicaHearsSpec : ChangeSpec := { name := "replicaHears", fn := fun _ => fun
  | [d1, d2] => { results := [.lit (.bool true)], args := [d1, d2] }
  | _ => none }
def replicaHearsRow : OpenClaim := { program := "ytioajgcbchdpeaa", sum := "b90cf647e079993f0ee7927dd1b4b1b325afc4c99afbc54e86cd27a61f1f29ee", func := "sculling/scullinglaw.ReplicaHears", spec := "replicaHears", apart := false }
def ReplicaHearsSaid : Prop := replicaHearsRow.holds Try.pinned (OpenSpec.ofChange replicaHearsSpec)

/-- ITS FALSE NEIGHBOUR: 'it returns false'. Refute it at one input. -/
def replicaHearsWrong : ChangeSpec := { name := "replicaHears", fn := fun _ => fun
  | [d1, d2] => { results := [.lit (.bool false)], args := [d1, d2] }
  | _ => none }
def ReplicaHearsWrongFalsely : Prop := replicaHearsRow.holds Try.pinned (OpenSpec.ofChange replicaHearsWrong)

/- THE SECOND FORM. 'bulk': how many values and letters a reading holds, each counted each time it is reached (what is shared counts as often as it is met; a slice's spare places count too). A statement '..UptoSaid' is the law's where the arguments, and the package variables that the reading takes, are together of bulk at most 1048576: NARROWER than '..Said'. Prove '..Said' where nothing that the law and all that it calls make is longer than what came in: it says more and counts as full. Else prove '..UptoSaid'. A law counts once. -/
mutual
def uptoBulk {H : Type} : DataW H → Nat
  | .lit (.string bytes) => bytes.length + 1
  | .lit _ => 1
  | .nil => 1
  | .ptr d => uptoBulk d + 1
  | .slice elems spare => uptoBulkAll elems + uptoBulkAll spare + 1
  | .agg parts => uptoBulkAll parts + 1
  | .iface _ d => uptoBulk d + 1
  | .map entries => uptoBulkEntries entries + 1
  | .held _ => 1
def uptoBulkAll {H : Type} : List (DataW H) → Nat
  | [] => 0
  | d :: r => uptoBulk d + uptoBulkAll r
def uptoBulkEntries {H : Type} : List (Lit × DataW H) → Nat
  | [] => 0
  | x :: r => uptoBulkEntry x + uptoBulkEntries r
def uptoBulkEntry {H : Type} : Lit × DataW H → Nat
  | (.string bytes, d) => bytes.length + uptoBulk d + 1
  | (_, d) => uptoBulk d + 1
 end
def uptoSmall : (H : Type) → List (DataW H) → Bool := fun _ ds => decide (uptoBulkAll ds ≤ 1048576)
def OpenSpec.upto (s : _root_.Go.ChangeSpec) : _root_.Go.OpenSpec := { _root_.Go.OpenSpec.ofChange s with cond := some uptoSmall }

/-- 'scullinglaw.Names', WHERE WHAT IT READS IS OF BULK AT MOST 1048576: true; the input reads as it did. -/
def namesUptoRow : OpenClaim := { program := "ytioajgcbchdpeaa", sum := "b90cf647e079993f0ee7927dd1b4b1b325afc4c99afbc54e86cd27a61f1f29ee", func := "sculling/scullinglaw.Names", spec := "names", apart := false, narrowed := true }
def NamesUptoSaid : Prop := namesUptoRow.holds Try.pinned (OpenSpec.upto namesSpec)

/-- 'scullinglaw.ReplicaCopies', WHERE WHAT IT READS IS OF BULK AT MOST 1048576: true; the input reads as it did. -/
def replicaCopiesUptoRow : OpenClaim := { program := "ytioajgcbchdpeaa", sum := "b90cf647e079993f0ee7927dd1b4b1b325afc4c99afbc54e86cd27a61f1f29ee", func := "sculling/scullinglaw.ReplicaCopies", spec := "replicaCopies", apart := false, narrowed := true }
def ReplicaCopiesUptoSaid : Prop := replicaCopiesUptoRow.holds Try.pinned (OpenSpec.upto replicaCopiesSpec)

/-- 'scullinglaw.VolumeDoes', WHERE WHAT IT READS IS OF BULK AT MOST 1048576: true; the input reads as it did. -/
def volumeDoesUptoRow : OpenClaim := { program := "ytioajgcbchdpeaa", sum := "b90cf647e079993f0ee7927dd1b4b1b325afc4c99afbc54e86cd27a61f1f29ee", func := "sculling/scullinglaw.VolumeDoes", spec := "volumeDoes", unfollowed := true, recurses := true, apart := false, narrowed := true }
def VolumeDoesUptoSaid : Prop := volumeDoesUptoRow.holds Try.pinned (OpenSpec.upto volumeDoesSpec)

/-- 'scullinglaw.ReplicaNews', WHERE WHAT IT READS IS OF BULK AT MOST 1048576: true; the input reads as it did. -/
def replicaNewsUptoRow : OpenClaim := { program := "ytioajgcbchdpeaa", sum := "b90cf647e079993f0ee7927dd1b4b1b325afc4c99afbc54e86cd27a61f1f29ee", func := "sculling/scullinglaw.ReplicaNews", spec := "replicaNews", apart := false, narrowed := true }
def ReplicaNewsUptoSaid : Prop := replicaNewsUptoRow.holds Try.pinned (OpenSpec.upto replicaNewsSpec)

/-- 'scullinglaw.StageEncodes', WHERE WHAT IT READS IS OF BULK AT MOST 1048576: true; the input reads as it did. -/
def stageEncodesUptoRow : OpenClaim := { program := "ytioajgcbchdpeaa", sum := "b90cf647e079993f0ee7927dd1b4b1b325afc4c99afbc54e86cd27a61f1f29ee", func := "sculling/scullinglaw.StageEncodes", spec := "stageEncodes", apart := false, narrowed := true }
def StageEncodesUptoSaid : Prop := stageEncodesUptoRow.holds Try.pinned (OpenSpec.upto stageEncodesSpec)

/-- 'scullinglaw.StageDecodes', WHERE WHAT IT READS IS OF BULK AT MOST 1048576: true; the input reads as it did. -/
def stageDecodesUptoRow : OpenClaim := { program := "ytioajgcbchdpeaa", sum := "b90cf647e079993f0ee7927dd1b4b1b325afc4c99afbc54e86cd27a61f1f29ee", func := "sculling/scullinglaw.StageDecodes", spec := "stageDecodes", apart := false, narrowed := true }
def StageDecodesUptoSaid : Prop := stageDecodesUptoRow.holds Try.pinned (OpenSpec.upto stageDecodesSpec)

/-- 'scullinglaw.StageNew', WHERE WHAT IT READS IS OF BULK AT MOST 1048576: true; the input reads as it did. -/
def stageNewUptoRow : OpenClaim := { program := "ytioajgcbchdpeaa", sum := "b90cf647e079993f0ee7927dd1b4b1b325afc4c99afbc54e86cd27a61f1f29ee", func := "sculling/scullinglaw.StageNew", spec := "stageNew", apart := false, narrowed := true }
def StageNewUptoSaid : Prop := stageNewUptoRow.holds Try.pinned (OpenSpec.upto stageNewSpec)

/-- 'scullinglaw.StageLoads', WHERE WHAT IT READS IS OF BULK AT MOST 1048576: true; the input reads as it did. -/
def stageLoadsUptoRow : OpenClaim := { program := "ytioajgcbchdpeaa", sum := "b90cf647e079993f0ee7927dd1b4b1b325afc4c99afbc54e86cd27a61f1f29ee", func := "sculling/scullinglaw.StageLoads", spec := "stageLoads", apart := false, narrowed := true }
def StageLoadsUptoSaid : Prop := stageLoadsUptoRow.holds Try.pinned (OpenSpec.upto stageLoadsSpec)

/-- 'scullinglaw.MachineApplies', WHERE WHAT IT READS IS OF BULK AT MOST 1048576: true; the input reads as it did. -/
def machineAppliesUptoRow : OpenClaim := { program := "ytioajgcbchdpeaa", sum := "b90cf647e079993f0ee7927dd1b4b1b325afc4c99afbc54e86cd27a61f1f29ee", func := "sculling/scullinglaw.MachineApplies", spec := "machineApplies", unfollowed := true, recurses := true, apart := false, narrowed := true }
def MachineAppliesUptoSaid : Prop := machineAppliesUptoRow.holds Try.pinned (OpenSpec.upto machineAppliesSpec)

/-- 'scullinglaw.ReplicaTicks', WHERE WHAT IT READS IS OF BULK AT MOST 1048576: true; the input reads as it did. -/
def replicaTicksUptoRow : OpenClaim := { program := "ytioajgcbchdpeaa", sum := "b90cf647e079993f0ee7927dd1b4b1b325afc4c99afbc54e86cd27a61f1f29ee", func := "sculling/scullinglaw.ReplicaTicks", spec := "replicaTicks", apart := false, narrowed := true }
def ReplicaTicksUptoSaid : Prop := replicaTicksUptoRow.holds Try.pinned (OpenSpec.upto replicaTicksSpec)

/-- 'scullinglaw.ReplicaTakes', WHERE WHAT IT READS IS OF BULK AT MOST 1048576: true; the input reads as it did. -/
def replicaTakesUptoRow : OpenClaim := { program := "ytioajgcbchdpeaa", sum := "b90cf647e079993f0ee7927dd1b4b1b325afc4c99afbc54e86cd27a61f1f29ee", func := "sculling/scullinglaw.ReplicaTakes", spec := "replicaTakes", apart := false, narrowed := true }
def ReplicaTakesUptoSaid : Prop := replicaTakesUptoRow.holds Try.pinned (OpenSpec.upto replicaTakesSpec)

/-- 'scullinglaw.ReplicaAlarms', WHERE WHAT IT READS IS OF BULK AT MOST 1048576: true; the input reads as it did. -/
def replicaAlarmsUptoRow : OpenClaim := { program := "ytioajgcbchdpeaa", sum := "b90cf647e079993f0ee7927dd1b4b1b325afc4c99afbc54e86cd27a61f1f29ee", func := "sculling/scullinglaw.ReplicaAlarms", spec := "replicaAlarms", apart := false, narrowed := true }
def ReplicaAlarmsUptoSaid : Prop := replicaAlarmsUptoRow.holds Try.pinned (OpenSpec.upto replicaAlarmsSpec)

/-- 'scullinglaw.MachinePlays', WHERE WHAT IT READS IS OF BULK AT MOST 1048576: true; the input reads as it did. -/
def machinePlaysUptoRow : OpenClaim := { program := "ytioajgcbchdpeaa", sum := "b90cf647e079993f0ee7927dd1b4b1b325afc4c99afbc54e86cd27a61f1f29ee", func := "sculling/scullinglaw.MachinePlays", spec := "machinePlays", unfollowed := true, recurses := true, apart := false, narrowed := true }
def MachinePlaysUptoSaid : Prop := machinePlaysUptoRow.holds Try.pinned (OpenSpec.upto machinePlaysSpec)

/-- 'scullinglaw.StageStores', WHERE WHAT IT READS IS OF BULK AT MOST 1048576: true; the input reads as it did. -/
def stageStoresUptoRow : OpenClaim := { program := "ytioajgcbchdpeaa", sum := "b90cf647e079993f0ee7927dd1b4b1b325afc4c99afbc54e86cd27a61f1f29ee", func := "sculling/scullinglaw.StageStores", spec := "stageStores", apart := false, narrowed := true }
def StageStoresUptoSaid : Prop := stageStoresUptoRow.holds Try.pinned (OpenSpec.upto stageStoresSpec)

/-- 'scullinglaw.ReplicaHears', WHERE WHAT IT READS IS OF BULK AT MOST 1048576: true; the input reads as it did. -/
def replicaHearsUptoRow : OpenClaim := { program := "ytioajgcbchdpeaa", sum := "b90cf647e079993f0ee7927dd1b4b1b325afc4c99afbc54e86cd27a61f1f29ee", func := "sculling/scullinglaw.ReplicaHears", spec := "replicaHears", apart := false, narrowed := true }
def ReplicaHearsUptoSaid : Prop := replicaHearsUptoRow.holds Try.pinned (OpenSpec.upto replicaHearsSpec)

end Rows
end Go.Proofs.Ytioajgcbchdpeaa

/-
  No cell of these rows narrows 'for every input' (looked for: loops, veiled, ifaces, maps, wideKeys, modest, calm, conditions, laid).
  DERIVED. THE GIVEN ROWS OF THIS SEAT. 35 by the template 'for every input the law returns true; each argument reads behind the call as it read before'; 0 by the template 'total and deterministic' (their statements: YtjofalgbelecbaaTotals.lean).
  GIVEN WITH THE SEED: the statements are not yours to turn. If you find one false, say at which input.
  Laid BY PROGRAM, IN A SANDBOX (cutbox-rows.mjs): the forced cells as the released guide's own fill.sh prints them over the translation 9fc1f3cb05e93067… (all of the seat's roots in one cut). By AI agents, Wed Nov 11 2026. No macro, syntax, notation, axiom, sorry.
-/
import Derived.Test.YtjofalgbelecbaaChecked
import GoSem.Claim
import GoSem.ClaimJoined
import GoSem.ClaimMapViews
import Derived.JoinedTies
import Derived.KernelRfl
namespace Go.Proofs.Ytjofalgbelecbaa
/- THE CELL 'sum', in the pinned program and in every row, IS THE sha256 OF THE DUMP (.gsa) THAT YtjofalgbelecbaaProg.lean LOADS. Nothing in Lean hashes anything: it is a label: what it is worth is what the hold of that sum in a sandbox is worth. -/
noncomputable def Try.pinned : Pinned := { name := "ytjofalgbelecbaa", sum := "9fc1f3cb05e93067f9748054c7b6ab6efa735a10ef44956054a9ef725e029471", checked := Try.checked }
namespace Rows
def none {H : Type} : Left H := { results := [], args := [] }

/-- 'scullinglaw.Names': WHATEVER THE INPUT: true; the input reads as it did. -/
def namesSpec : ChangeSpec := { name := "names", fn := fun _ => fun
  | [] => { results := [.lit (.bool true)], args := [] }
  | _ => none }
def namesRow : OpenClaim := { program := "ytjofalgbelecbaa", sum := "9fc1f3cb05e93067f9748054c7b6ab6efa735a10ef44956054a9ef725e029471", func := "sculling/scullinglaw.Names", spec := "names", apart := false }
def NamesSaid : Prop := namesRow.holds Try.pinned (OpenSpec.ofChange namesSpec)

/-- ITS FALSE NEIGHBOUR: 'it returns false'. Refute it at one input. -/
def namesWrong : ChangeSpec := { name := "names", fn := fun _ => fun
  | [] => { results := [.lit (.bool false)], args := [] }
  | _ => none }
def NamesWrongFalsely : Prop := namesRow.holds Try.pinned (OpenSpec.ofChange namesWrong)

/-- 'scullinglaw.VolumeNew': WHATEVER THE INPUT: true; the input reads as it did. -/
def volumeNewSpec : ChangeSpec := { name := "volumeNew", fn := fun _ => fun
  | [] => { results := [.lit (.bool true)], args := [] }
  | _ => none }
def volumeNewRow : OpenClaim := { program := "ytjofalgbelecbaa", sum := "9fc1f3cb05e93067f9748054c7b6ab6efa735a10ef44956054a9ef725e029471", func := "sculling/scullinglaw.VolumeNew", spec := "volumeNew", apart := false }
def VolumeNewSaid : Prop := volumeNewRow.holds Try.pinned (OpenSpec.ofChange volumeNewSpec)

/-- ITS FALSE NEIGHBOUR: 'it returns false'. Refute it at one input. -/
def volumeNewWrong : ChangeSpec := { name := "volumeNew", fn := fun _ => fun
  | [] => { results := [.lit (.bool false)], args := [] }
  | _ => none }
def VolumeNewWrongFalsely : Prop := volumeNewRow.holds Try.pinned (OpenSpec.ofChange volumeNewWrong)

/-- 'scullinglaw.ReplicaLeaders': WHATEVER THE INPUT: true; the input reads as it did. -/
def replicaLeadersSpec : ChangeSpec := { name := "replicaLeaders", fn := fun _ => fun
  | [d] => { results := [.lit (.bool true)], args := [d] }
  | _ => none }
def replicaLeadersRow : OpenClaim := { program := "ytjofalgbelecbaa", sum := "9fc1f3cb05e93067f9748054c7b6ab6efa735a10ef44956054a9ef725e029471", func := "sculling/scullinglaw.ReplicaLeaders", spec := "replicaLeaders", apart := false }
def ReplicaLeadersSaid : Prop := replicaLeadersRow.holds Try.pinned (OpenSpec.ofChange replicaLeadersSpec)

/-- ITS FALSE NEIGHBOUR: 'it returns false'. Refute it at one input. -/
def replicaLeadersWrong : ChangeSpec := { name := "replicaLeaders", fn := fun _ => fun
  | [d] => { results := [.lit (.bool false)], args := [d] }
  | _ => none }
def ReplicaLeadersWrongFalsely : Prop := replicaLeadersRow.holds Try.pinned (OpenSpec.ofChange replicaLeadersWrong)

/-- 'scullinglaw.ReplicaLeads': WHATEVER THE INPUT: true; the input reads as it did. -/
def replicaLeadsSpec : ChangeSpec := { name := "replicaLeads", fn := fun _ => fun
  | [d] => { results := [.lit (.bool true)], args := [d] }
  | _ => none }
def replicaLeadsRow : OpenClaim := { program := "ytjofalgbelecbaa", sum := "9fc1f3cb05e93067f9748054c7b6ab6efa735a10ef44956054a9ef725e029471", func := "sculling/scullinglaw.ReplicaLeads", spec := "replicaLeads", apart := false }
def ReplicaLeadsSaid : Prop := replicaLeadsRow.holds Try.pinned (OpenSpec.ofChange replicaLeadsSpec)

/-- ITS FALSE NEIGHBOUR: 'it returns false'. Refute it at one input. -/
def replicaLeadsWrong : ChangeSpec := { name := "replicaLeads", fn := fun _ => fun
  | [d] => { results := [.lit (.bool false)], args := [d] }
  | _ => none }
def ReplicaLeadsWrongFalsely : Prop := replicaLeadsRow.holds Try.pinned (OpenSpec.ofChange replicaLeadsWrong)

/-- 'scullinglaw.MachineNew': WHATEVER THE INPUT: true; the input reads as it did. -/
def machineNewSpec : ChangeSpec := { name := "machineNew", fn := fun _ => fun
  | [] => { results := [.lit (.bool true)], args := [] }
  | _ => none }
def machineNewRow : OpenClaim := { program := "ytjofalgbelecbaa", sum := "9fc1f3cb05e93067f9748054c7b6ab6efa735a10ef44956054a9ef725e029471", func := "sculling/scullinglaw.MachineNew", spec := "machineNew", apart := false }
def MachineNewSaid : Prop := machineNewRow.holds Try.pinned (OpenSpec.ofChange machineNewSpec)

/-- ITS FALSE NEIGHBOUR: 'it returns false'. Refute it at one input. -/
def machineNewWrong : ChangeSpec := { name := "machineNew", fn := fun _ => fun
  | [] => { results := [.lit (.bool false)], args := [] }
  | _ => none }
def MachineNewWrongFalsely : Prop := machineNewRow.holds Try.pinned (OpenSpec.ofChange machineNewWrong)

/-- 'scullinglaw.CodecNumbers': WHATEVER THE INPUT: true; the input reads as it did. -/
def codecNumbersSpec : ChangeSpec := { name := "codecNumbers", fn := fun _ => fun
  | [d] => { results := [.lit (.bool true)], args := [d] }
  | _ => none }
def codecNumbersRow : OpenClaim := { program := "ytjofalgbelecbaa", sum := "9fc1f3cb05e93067f9748054c7b6ab6efa735a10ef44956054a9ef725e029471", func := "sculling/scullinglaw.CodecNumbers", spec := "codecNumbers", apart := false }
def CodecNumbersSaid : Prop := codecNumbersRow.holds Try.pinned (OpenSpec.ofChange codecNumbersSpec)

/-- ITS FALSE NEIGHBOUR: 'it returns false'. Refute it at one input. -/
def codecNumbersWrong : ChangeSpec := { name := "codecNumbers", fn := fun _ => fun
  | [d] => { results := [.lit (.bool false)], args := [d] }
  | _ => none }
def CodecNumbersWrongFalsely : Prop := codecNumbersRow.holds Try.pinned (OpenSpec.ofChange codecNumbersWrong)

/-- 'scullinglaw.CodecTexts': WHATEVER THE INPUT: true; the input reads as it did. -/
def codecTextsSpec : ChangeSpec := { name := "codecTexts", fn := fun _ => fun
  | [d] => { results := [.lit (.bool true)], args := [d] }
  | _ => none }
def codecTextsRow : OpenClaim := { program := "ytjofalgbelecbaa", sum := "9fc1f3cb05e93067f9748054c7b6ab6efa735a10ef44956054a9ef725e029471", func := "sculling/scullinglaw.CodecTexts", spec := "codecTexts", apart := false }
def CodecTextsSaid : Prop := codecTextsRow.holds Try.pinned (OpenSpec.ofChange codecTextsSpec)

/-- ITS FALSE NEIGHBOUR: 'it returns false'. Refute it at one input. -/
def codecTextsWrong : ChangeSpec := { name := "codecTexts", fn := fun _ => fun
  | [d] => { results := [.lit (.bool false)], args := [d] }
  | _ => none }
def CodecTextsWrongFalsely : Prop := codecTextsRow.holds Try.pinned (OpenSpec.ofChange codecTextsWrong)

/-- 'scullinglaw.CodecTells': WHATEVER THE INPUT: true; the input reads as it did. -/
def codecTellsSpec : ChangeSpec := { name := "codecTells", fn := fun _ => fun
  | [d] => { results := [.lit (.bool true)], args := [d] }
  | _ => none }
def codecTellsRow : OpenClaim := { program := "ytjofalgbelecbaa", sum := "9fc1f3cb05e93067f9748054c7b6ab6efa735a10ef44956054a9ef725e029471", func := "sculling/scullinglaw.CodecTells", spec := "codecTells", apart := false }
def CodecTellsSaid : Prop := codecTellsRow.holds Try.pinned (OpenSpec.ofChange codecTellsSpec)

/-- ITS FALSE NEIGHBOUR: 'it returns false'. Refute it at one input. -/
def codecTellsWrong : ChangeSpec := { name := "codecTells", fn := fun _ => fun
  | [d] => { results := [.lit (.bool false)], args := [d] }
  | _ => none }
def CodecTellsWrongFalsely : Prop := codecTellsRow.holds Try.pinned (OpenSpec.ofChange codecTellsWrong)

/-- 'scullinglaw.CodecSeals': WHATEVER THE INPUT: true; the input reads as it did. -/
def codecSealsSpec : ChangeSpec := { name := "codecSeals", fn := fun _ => fun
  | [d] => { results := [.lit (.bool true)], args := [d] }
  | _ => none }
def codecSealsRow : OpenClaim := { program := "ytjofalgbelecbaa", sum := "9fc1f3cb05e93067f9748054c7b6ab6efa735a10ef44956054a9ef725e029471", func := "sculling/scullinglaw.CodecSeals", spec := "codecSeals", apart := false }
def CodecSealsSaid : Prop := codecSealsRow.holds Try.pinned (OpenSpec.ofChange codecSealsSpec)

/-- ITS FALSE NEIGHBOUR: 'it returns false'. Refute it at one input. -/
def codecSealsWrong : ChangeSpec := { name := "codecSeals", fn := fun _ => fun
  | [d] => { results := [.lit (.bool false)], args := [d] }
  | _ => none }
def CodecSealsWrongFalsely : Prop := codecSealsRow.holds Try.pinned (OpenSpec.ofChange codecSealsWrong)

/-- 'scullinglaw.CodecReads': WHATEVER THE INPUT: true; the input reads as it did. -/
def codecReadsSpec : ChangeSpec := { name := "codecReads", fn := fun _ => fun
  | [d] => { results := [.lit (.bool true)], args := [d] }
  | _ => none }
def codecReadsRow : OpenClaim := { program := "ytjofalgbelecbaa", sum := "9fc1f3cb05e93067f9748054c7b6ab6efa735a10ef44956054a9ef725e029471", func := "sculling/scullinglaw.CodecReads", spec := "codecReads", apart := false }
def CodecReadsSaid : Prop := codecReadsRow.holds Try.pinned (OpenSpec.ofChange codecReadsSpec)

/-- ITS FALSE NEIGHBOUR: 'it returns false'. Refute it at one input. -/
def codecReadsWrong : ChangeSpec := { name := "codecReads", fn := fun _ => fun
  | [d] => { results := [.lit (.bool false)], args := [d] }
  | _ => none }
def CodecReadsWrongFalsely : Prop := codecReadsRow.holds Try.pinned (OpenSpec.ofChange codecReadsWrong)

/-- 'scullinglaw.VolumeOps': WHATEVER THE INPUT: true; the input reads as it did. -/
def volumeOpsSpec : ChangeSpec := { name := "volumeOps", fn := fun _ => fun
  | [d] => { results := [.lit (.bool true)], args := [d] }
  | _ => none }
def volumeOpsRow : OpenClaim := { program := "ytjofalgbelecbaa", sum := "9fc1f3cb05e93067f9748054c7b6ab6efa735a10ef44956054a9ef725e029471", func := "sculling/scullinglaw.VolumeOps", spec := "volumeOps", apart := false }
def VolumeOpsSaid : Prop := volumeOpsRow.holds Try.pinned (OpenSpec.ofChange volumeOpsSpec)

/-- ITS FALSE NEIGHBOUR: 'it returns false'. Refute it at one input. -/
def volumeOpsWrong : ChangeSpec := { name := "volumeOps", fn := fun _ => fun
  | [d] => { results := [.lit (.bool false)], args := [d] }
  | _ => none }
def VolumeOpsWrongFalsely : Prop := volumeOpsRow.holds Try.pinned (OpenSpec.ofChange volumeOpsWrong)

/-- 'scullinglaw.StageCopies': WHATEVER THE INPUT: true; the input reads as it did. -/
def stageCopiesSpec : ChangeSpec := { name := "stageCopies", fn := fun _ => fun
  | [d] => { results := [.lit (.bool true)], args := [d] }
  | _ => none }
def stageCopiesRow : OpenClaim := { program := "ytjofalgbelecbaa", sum := "9fc1f3cb05e93067f9748054c7b6ab6efa735a10ef44956054a9ef725e029471", func := "sculling/scullinglaw.StageCopies", spec := "stageCopies", apart := false }
def StageCopiesSaid : Prop := stageCopiesRow.holds Try.pinned (OpenSpec.ofChange stageCopiesSpec)

/-- ITS FALSE NEIGHBOUR: 'it returns false'. Refute it at one input. -/
def stageCopiesWrong : ChangeSpec := { name := "stageCopies", fn := fun _ => fun
  | [d] => { results := [.lit (.bool false)], args := [d] }
  | _ => none }
def StageCopiesWrongFalsely : Prop := stageCopiesRow.holds Try.pinned (OpenSpec.ofChange stageCopiesWrong)

/-- 'scullinglaw.VolumeCopies': WHATEVER THE INPUT: true; the input reads as it did. -/
def volumeCopiesSpec : ChangeSpec := { name := "volumeCopies", fn := fun _ => fun
  | [d] => { results := [.lit (.bool true)], args := [d] }
  | _ => none }
def volumeCopiesRow : OpenClaim := { program := "ytjofalgbelecbaa", sum := "9fc1f3cb05e93067f9748054c7b6ab6efa735a10ef44956054a9ef725e029471", func := "sculling/scullinglaw.VolumeCopies", spec := "volumeCopies", apart := false }
def VolumeCopiesSaid : Prop := volumeCopiesRow.holds Try.pinned (OpenSpec.ofChange volumeCopiesSpec)

/-- ITS FALSE NEIGHBOUR: 'it returns false'. Refute it at one input. -/
def volumeCopiesWrong : ChangeSpec := { name := "volumeCopies", fn := fun _ => fun
  | [d] => { results := [.lit (.bool false)], args := [d] }
  | _ => none }
def VolumeCopiesWrongFalsely : Prop := volumeCopiesRow.holds Try.pinned (OpenSpec.ofChange volumeCopiesWrong)

/-- 'scullinglaw.MachineRequests': WHATEVER THE INPUT: true; the input reads as it did. -/
def machineRequestsSpec : ChangeSpec := { name := "machineRequests", fn := fun _ => fun
  | [d] => { results := [.lit (.bool true)], args := [d] }
  | _ => none }
def machineRequestsRow : OpenClaim := { program := "ytjofalgbelecbaa", sum := "9fc1f3cb05e93067f9748054c7b6ab6efa735a10ef44956054a9ef725e029471", func := "sculling/scullinglaw.MachineRequests", spec := "machineRequests", apart := false }
def MachineRequestsSaid : Prop := machineRequestsRow.holds Try.pinned (OpenSpec.ofChange machineRequestsSpec)

/-- ITS FALSE NEIGHBOUR: 'it returns false'. Refute it at one input. -/
def machineRequestsWrong : ChangeSpec := { name := "machineRequests", fn := fun _ => fun
  | [d] => { results := [.lit (.bool false)], args := [d] }
  | _ => none }
def MachineRequestsWrongFalsely : Prop := machineRequestsRow.holds Try.pinned (OpenSpec.ofChange machineRequestsWrong)

/-- 'scullinglaw.VolumeChecks': WHATEVER THE INPUT: true; the input reads as it did. -/
def volumeChecksSpec : ChangeSpec := { name := "volumeChecks", fn := fun _ => fun
  | [d] => { results := [.lit (.bool true)], args := [d] }
  | _ => none }
def volumeChecksRow : OpenClaim := { program := "ytjofalgbelecbaa", sum := "9fc1f3cb05e93067f9748054c7b6ab6efa735a10ef44956054a9ef725e029471", func := "sculling/scullinglaw.VolumeChecks", spec := "volumeChecks", unfollowed := true, recurses := true, apart := false }
def VolumeChecksSaid : Prop := volumeChecksRow.holds Try.pinned (OpenSpec.ofChange volumeChecksSpec)

/-- ITS FALSE NEIGHBOUR: 'it returns false'. Refute it at one input. -/
def volumeChecksWrong : ChangeSpec := { name := "volumeChecks", fn := fun _ => fun
  | [d] => { results := [.lit (.bool false)], args := [d] }
  | _ => none }
def VolumeChecksWrongFalsely : Prop := volumeChecksRow.holds Try.pinned (OpenSpec.ofChange volumeChecksWrong)

/-- 'scullinglaw.ReplicaCopies': WHATEVER THE INPUT: true; the input reads as it did. -/
def replicaCopiesSpec : ChangeSpec := { name := "replicaCopies", fn := fun _ => fun
  | [d] => { results := [.lit (.bool true)], args := [d] }
  | _ => none }
def replicaCopiesRow : OpenClaim := { program := "ytjofalgbelecbaa", sum := "9fc1f3cb05e93067f9748054c7b6ab6efa735a10ef44956054a9ef725e029471", func := "sculling/scullinglaw.ReplicaCopies", spec := "replicaCopies", apart := false }
def ReplicaCopiesSaid : Prop := replicaCopiesRow.holds Try.pinned (OpenSpec.ofChange replicaCopiesSpec)

/-- ITS FALSE NEIGHBOUR: 'it returns false'. Refute it at one input. -/
def replicaCopiesWrong : ChangeSpec := { name := "replicaCopies", fn := fun _ => fun
  | [d] => { results := [.lit (.bool false)], args := [d] }
  | _ => none }
def ReplicaCopiesWrongFalsely : Prop := replicaCopiesRow.holds Try.pinned (OpenSpec.ofChange replicaCopiesWrong)

/-- 'scullinglaw.MachineChecks': WHATEVER THE INPUT: true; the input reads as it did. -/
def machineChecksSpec : ChangeSpec := { name := "machineChecks", fn := fun _ => fun
  | [d] => { results := [.lit (.bool true)], args := [d] }
  | _ => none }
def machineChecksRow : OpenClaim := { program := "ytjofalgbelecbaa", sum := "9fc1f3cb05e93067f9748054c7b6ab6efa735a10ef44956054a9ef725e029471", func := "sculling/scullinglaw.MachineChecks", spec := "machineChecks", unfollowed := true, recurses := true, apart := false }
def MachineChecksSaid : Prop := machineChecksRow.holds Try.pinned (OpenSpec.ofChange machineChecksSpec)

/-- ITS FALSE NEIGHBOUR: 'it returns false'. Refute it at one input. -/
def machineChecksWrong : ChangeSpec := { name := "machineChecks", fn := fun _ => fun
  | [d] => { results := [.lit (.bool false)], args := [d] }
  | _ => none }
def MachineChecksWrongFalsely : Prop := machineChecksRow.holds Try.pinned (OpenSpec.ofChange machineChecksWrong)

/-- 'scullinglaw.MachineEncodes': WHATEVER THE INPUT: true; the input reads as it did. -/
def machineEncodesSpec : ChangeSpec := { name := "machineEncodes", fn := fun _ => fun
  | [d] => { results := [.lit (.bool true)], args := [d] }
  | _ => none }
def machineEncodesRow : OpenClaim := { program := "ytjofalgbelecbaa", sum := "9fc1f3cb05e93067f9748054c7b6ab6efa735a10ef44956054a9ef725e029471", func := "sculling/scullinglaw.MachineEncodes", spec := "machineEncodes", apart := false }
def MachineEncodesSaid : Prop := machineEncodesRow.holds Try.pinned (OpenSpec.ofChange machineEncodesSpec)

/-- ITS FALSE NEIGHBOUR: 'it returns false'. Refute it at one input. -/
def machineEncodesWrong : ChangeSpec := { name := "machineEncodes", fn := fun _ => fun
  | [d] => { results := [.lit (.bool false)], args := [d] }
  | _ => none }
def MachineEncodesWrongFalsely : Prop := machineEncodesRow.holds Try.pinned (OpenSpec.ofChange machineEncodesWrong)

/-- 'scullinglaw.MachineDecodes': WHATEVER THE INPUT: true; the input reads as it did. -/
def machineDecodesSpec : ChangeSpec := { name := "machineDecodes", fn := fun _ => fun
  | [d] => { results := [.lit (.bool true)], args := [d] }
  | _ => none }
def machineDecodesRow : OpenClaim := { program := "ytjofalgbelecbaa", sum := "9fc1f3cb05e93067f9748054c7b6ab6efa735a10ef44956054a9ef725e029471", func := "sculling/scullinglaw.MachineDecodes", spec := "machineDecodes", apart := false }
def MachineDecodesSaid : Prop := machineDecodesRow.holds Try.pinned (OpenSpec.ofChange machineDecodesSpec)

/-- ITS FALSE NEIGHBOUR: 'it returns false'. Refute it at one input. -/
def machineDecodesWrong : ChangeSpec := { name := "machineDecodes", fn := fun _ => fun
  | [d] => { results := [.lit (.bool false)], args := [d] }
  | _ => none }
def MachineDecodesWrongFalsely : Prop := machineDecodesRow.holds Try.pinned (OpenSpec.ofChange machineDecodesWrong)

/-- 'scullinglaw.VolumeDoes': WHATEVER THE INPUT: true; the input reads as it did. -/
def volumeDoesSpec : ChangeSpec := { name := "volumeDoes", fn := fun _ => fun
  | [d1, d2] => { results := [.lit (.bool true)], args := [d1, d2] }
  | _ => none }
def volumeDoesRow : OpenClaim := { program := "ytjofalgbelecbaa", sum := "9fc1f3cb05e93067f9748054c7b6ab6efa735a10ef44956054a9ef725e029471", func := "sculling/scullinglaw.VolumeDoes", spec := "volumeDoes", unfollowed := true, recurses := true, apart := false }
def VolumeDoesSaid : Prop := volumeDoesRow.holds Try.pinned (OpenSpec.ofChange volumeDoesSpec)

/-- ITS FALSE NEIGHBOUR: 'it returns false'. Refute it at one input. -/
def volumeDoesWrong : ChangeSpec := { name := "volumeDoes", fn := fun _ => fun
  | [d1, d2] => { results := [.lit (.bool false)], args := [d1, d2] }
  | _ => none }
def VolumeDoesWrongFalsely : Prop := volumeDoesRow.holds Try.pinned (OpenSpec.ofChange volumeDoesWrong)

/-- 'scullinglaw.StageChecks': WHATEVER THE INPUT: true; the input reads as it did. -/
def stageChecksSpec : ChangeSpec := { name := "stageChecks", fn := fun _ => fun
  | [d] => { results := [.lit (.bool true)], args := [d] }
  | _ => none }
def stageChecksRow : OpenClaim := { program := "ytjofalgbelecbaa", sum := "9fc1f3cb05e93067f9748054c7b6ab6efa735a10ef44956054a9ef725e029471", func := "sculling/scullinglaw.StageChecks", spec := "stageChecks", apart := false }
def StageChecksSaid : Prop := stageChecksRow.holds Try.pinned (OpenSpec.ofChange stageChecksSpec)

/-- ITS FALSE NEIGHBOUR: 'it returns false'. Refute it at one input. -/
def stageChecksWrong : ChangeSpec := { name := "stageChecks", fn := fun _ => fun
  | [d] => { results := [.lit (.bool false)], args := [d] }
  | _ => none }
def StageChecksWrongFalsely : Prop := stageChecksRow.holds Try.pinned (OpenSpec.ofChange stageChecksWrong)

/-- 'scullinglaw.ReplicaChecks': WHATEVER THE INPUT: true; the input reads as it did. -/
def replicaChecksSpec : ChangeSpec := { name := "replicaChecks", fn := fun _ => fun
  | [d] => { results := [.lit (.bool true)], args := [d] }
  | _ => none }
def replicaChecksRow : OpenClaim := { program := "ytjofalgbelecbaa", sum := "9fc1f3cb05e93067f9748054c7b6ab6efa735a10ef44956054a9ef725e029471", func := "sculling/scullinglaw.ReplicaChecks", spec := "replicaChecks", apart := false }
def ReplicaChecksSaid : Prop := replicaChecksRow.holds Try.pinned (OpenSpec.ofChange replicaChecksSpec)

/-- ITS FALSE NEIGHBOUR: 'it returns false'. Refute it at one input. -/
def replicaChecksWrong : ChangeSpec := { name := "replicaChecks", fn := fun _ => fun
  | [d] => { results := [.lit (.bool false)], args := [d] }
  | _ => none }
def ReplicaChecksWrongFalsely : Prop := replicaChecksRow.holds Try.pinned (OpenSpec.ofChange replicaChecksWrong)

/-- 'scullinglaw.ReplicaMessages': WHATEVER THE INPUT: true; the input reads as it did. -/
def replicaMessagesSpec : ChangeSpec := { name := "replicaMessages", fn := fun _ => fun
  | [d] => { results := [.lit (.bool true)], args := [d] }
  | _ => none }
def replicaMessagesRow : OpenClaim := { program := "ytjofalgbelecbaa", sum := "9fc1f3cb05e93067f9748054c7b6ab6efa735a10ef44956054a9ef725e029471", func := "sculling/scullinglaw.ReplicaMessages", spec := "replicaMessages", apart := false }
def ReplicaMessagesSaid : Prop := replicaMessagesRow.holds Try.pinned (OpenSpec.ofChange replicaMessagesSpec)

/-- ITS FALSE NEIGHBOUR: 'it returns false'. Refute it at one input. -/
def replicaMessagesWrong : ChangeSpec := { name := "replicaMessages", fn := fun _ => fun
  | [d] => { results := [.lit (.bool false)], args := [d] }
  | _ => none }
def ReplicaMessagesWrongFalsely : Prop := replicaMessagesRow.holds Try.pinned (OpenSpec.ofChange replicaMessagesWrong)

/-- 'scullinglaw.ReplicaNews': WHATEVER THE INPUT: true; the input reads as it did. -/
def replicaNewsSpec : ChangeSpec := { name := "replicaNews", fn := fun _ => fun
  | [d1, d2] => { results := [.lit (.bool true)], args := [d1, d2] }
  | _ => none }
def replicaNewsRow : OpenClaim := { program := "ytjofalgbelecbaa", sum := "9fc1f3cb05e93067f9748054c7b6ab6efa735a10ef44956054a9ef725e029471", func := "sculling/scullinglaw.ReplicaNews", spec := "replicaNews", apart := false }
def ReplicaNewsSaid : Prop := replicaNewsRow.holds Try.pinned (OpenSpec.ofChange replicaNewsSpec)

/-- ITS FALSE NEIGHBOUR: 'it returns false'. Refute it at one input. -/
def replicaNewsWrong : ChangeSpec := { name := "replicaNews", fn := fun _ => fun
  | [d1, d2] => { results := [.lit (.bool false)], args := [d1, d2] }
  | _ => none }
def ReplicaNewsWrongFalsely : Prop := replicaNewsRow.holds Try.pinned (OpenSpec.ofChange replicaNewsWrong)

/-- 'scullinglaw.StageEncodes': WHATEVER THE INPUT: true; the input reads as it did. -/
def stageEncodesSpec : ChangeSpec := { name := "stageEncodes", fn := fun _ => fun
  | [d1, d2] => { results := [.lit (.bool true)], args := [d1, d2] }
  | _ => none }
def stageEncodesRow : OpenClaim := { program := "ytjofalgbelecbaa", sum := "9fc1f3cb05e93067f9748054c7b6ab6efa735a10ef44956054a9ef725e029471", func := "sculling/scullinglaw.StageEncodes", spec := "stageEncodes", apart := false }
def StageEncodesSaid : Prop := stageEncodesRow.holds Try.pinned (OpenSpec.ofChange stageEncodesSpec)

/-- ITS FALSE NEIGHBOUR: 'it returns false'. Refute it at one input. -/
def stageEncodesWrong : ChangeSpec := { name := "stageEncodes", fn := fun _ => fun
  | [d1, d2] => { results := [.lit (.bool false)], args := [d1, d2] }
  | _ => none }
def StageEncodesWrongFalsely : Prop := stageEncodesRow.holds Try.pinned (OpenSpec.ofChange stageEncodesWrong)

/-- 'scullinglaw.StageDecodes': WHATEVER THE INPUT: true; the input reads as it did. -/
def stageDecodesSpec : ChangeSpec := { name := "stageDecodes", fn := fun _ => fun
  | [d] => { results := [.lit (.bool true)], args := [d] }
  | _ => none }
def stageDecodesRow : OpenClaim := { program := "ytjofalgbelecbaa", sum := "9fc1f3cb05e93067f9748054c7b6ab6efa735a10ef44956054a9ef725e029471", func := "sculling/scullinglaw.StageDecodes", spec := "stageDecodes", apart := false }
def StageDecodesSaid : Prop := stageDecodesRow.holds Try.pinned (OpenSpec.ofChange stageDecodesSpec)

/-- ITS FALSE NEIGHBOUR: 'it returns false'. Refute it at one input. -/
def stageDecodesWrong : ChangeSpec := { name := "stageDecodes", fn := fun _ => fun
  | [d] => { results := [.lit (.bool false)], args := [d] }
  | _ => none }
def StageDecodesWrongFalsely : Prop := stageDecodesRow.holds Try.pinned (OpenSpec.ofChange stageDecodesWrong)

/-- 'scullinglaw.StageNew': WHATEVER THE INPUT: true; the input reads as it did. -/
def stageNewSpec : ChangeSpec := { name := "stageNew", fn := fun _ => fun
  | [] => { results := [.lit (.bool true)], args := [] }
  | _ => none }
def stageNewRow : OpenClaim := { program := "ytjofalgbelecbaa", sum := "9fc1f3cb05e93067f9748054c7b6ab6efa735a10ef44956054a9ef725e029471", func := "sculling/scullinglaw.StageNew", spec := "stageNew", apart := false }
def StageNewSaid : Prop := stageNewRow.holds Try.pinned (OpenSpec.ofChange stageNewSpec)

/-- ITS FALSE NEIGHBOUR: 'it returns false'. Refute it at one input. -/
def stageNewWrong : ChangeSpec := { name := "stageNew", fn := fun _ => fun
  | [] => { results := [.lit (.bool false)], args := [] }
  | _ => none }
def StageNewWrongFalsely : Prop := stageNewRow.holds Try.pinned (OpenSpec.ofChange stageNewWrong)

/-- 'scullinglaw.StageLoads': WHATEVER THE INPUT: true; the input reads as it did. -/
def stageLoadsSpec : ChangeSpec := { name := "stageLoads", fn := fun _ => fun
  | [d] => { results := [.lit (.bool true)], args := [d] }
  | _ => none }
def stageLoadsRow : OpenClaim := { program := "ytjofalgbelecbaa", sum := "9fc1f3cb05e93067f9748054c7b6ab6efa735a10ef44956054a9ef725e029471", func := "sculling/scullinglaw.StageLoads", spec := "stageLoads", apart := false }
def StageLoadsSaid : Prop := stageLoadsRow.holds Try.pinned (OpenSpec.ofChange stageLoadsSpec)

/-- ITS FALSE NEIGHBOUR: 'it returns false'. Refute it at one input. -/
def stageLoadsWrong : ChangeSpec := { name := "stageLoads", fn := fun _ => fun
  | [d] => { results := [.lit (.bool false)], args := [d] }
  | _ => none }
def StageLoadsWrongFalsely : Prop := stageLoadsRow.holds Try.pinned (OpenSpec.ofChange stageLoadsWrong)

/-- 'scullinglaw.MachineApplies': WHATEVER THE INPUT: true; the input reads as it did. -/
def machineAppliesSpec : ChangeSpec := { name := "machineApplies", fn := fun _ => fun
  | [d1, d2] => { results := [.lit (.bool true)], args := [d1, d2] }
  | _ => none }
def machineAppliesRow : OpenClaim := { program := "ytjofalgbelecbaa", sum := "9fc1f3cb05e93067f9748054c7b6ab6efa735a10ef44956054a9ef725e029471", func := "sculling/scullinglaw.MachineApplies", spec := "machineApplies", unfollowed := true, recurses := true, apart := false }
def MachineAppliesSaid : Prop := machineAppliesRow.holds Try.pinned (OpenSpec.ofChange machineAppliesSpec)

/-- ITS FALSE NEIGHBOUR: 'it returns false'. Refute it at one input. -/
def machineAppliesWrong : ChangeSpec := { name := "machineApplies", fn := fun _ => fun
  | [d1, d2] => { results := [.lit (.bool false)], args := [d1, d2] }
  | _ => none }
def MachineAppliesWrongFalsely : Prop := machineAppliesRow.holds Try.pinned (OpenSpec.ofChange machineAppliesWrong)

/-- 'scullinglaw.ReplicaTicks': WHATEVER THE INPUT: true; the input reads as it did. -/
def replicaTicksSpec : ChangeSpec := { name := "replicaTicks", fn := fun _ => fun
  | [d] => { results := [.lit (.bool true)], args := [d] }
  | _ => none }
def replicaTicksRow : OpenClaim := { program := "ytjofalgbelecbaa", sum := "9fc1f3cb05e93067f9748054c7b6ab6efa735a10ef44956054a9ef725e029471", func := "sculling/scullinglaw.ReplicaTicks", spec := "replicaTicks", apart := false }
def ReplicaTicksSaid : Prop := replicaTicksRow.holds Try.pinned (OpenSpec.ofChange replicaTicksSpec)

/-- ITS FALSE NEIGHBOUR: 'it returns false'. Refute it at one input. -/
def replicaTicksWrong : ChangeSpec := { name := "replicaTicks", fn := fun _ => fun
  | [d] => { results := [.lit (.bool false)], args := [d] }
  | _ => none }
def ReplicaTicksWrongFalsely : Prop := replicaTicksRow.holds Try.pinned (OpenSpec.ofChange replicaTicksWrong)

/-- 'scullinglaw.ReplicaTakes': WHATEVER THE INPUT: true; the input reads as it did. -/
def replicaTakesSpec : ChangeSpec := { name := "replicaTakes", fn := fun _ => fun
  | [d1, d2] => { results := [.lit (.bool true)], args := [d1, d2] }
  | _ => none }
def replicaTakesRow : OpenClaim := { program := "ytjofalgbelecbaa", sum := "9fc1f3cb05e93067f9748054c7b6ab6efa735a10ef44956054a9ef725e029471", func := "sculling/scullinglaw.ReplicaTakes", spec := "replicaTakes", apart := false }
def ReplicaTakesSaid : Prop := replicaTakesRow.holds Try.pinned (OpenSpec.ofChange replicaTakesSpec)

/-- ITS FALSE NEIGHBOUR: 'it returns false'. Refute it at one input. -/
def replicaTakesWrong : ChangeSpec := { name := "replicaTakes", fn := fun _ => fun
  | [d1, d2] => { results := [.lit (.bool false)], args := [d1, d2] }
  | _ => none }
def ReplicaTakesWrongFalsely : Prop := replicaTakesRow.holds Try.pinned (OpenSpec.ofChange replicaTakesWrong)

/-- 'scullinglaw.ReplicaAlarms': WHATEVER THE INPUT: true; the input reads as it did. -/
def replicaAlarmsSpec : ChangeSpec := { name := "replicaAlarms", fn := fun _ => fun
  | [d] => { results := [.lit (.bool true)], args := [d] }
  | _ => none }
def replicaAlarmsRow : OpenClaim := { program := "ytjofalgbelecbaa", sum := "9fc1f3cb05e93067f9748054c7b6ab6efa735a10ef44956054a9ef725e029471", func := "sculling/scullinglaw.ReplicaAlarms", spec := "replicaAlarms", apart := false }
def ReplicaAlarmsSaid : Prop := replicaAlarmsRow.holds Try.pinned (OpenSpec.ofChange replicaAlarmsSpec)

/-- ITS FALSE NEIGHBOUR: 'it returns false'. Refute it at one input. -/
def replicaAlarmsWrong : ChangeSpec := { name := "replicaAlarms", fn := fun _ => fun
  | [d] => { results := [.lit (.bool false)], args := [d] }
  | _ => none }
def ReplicaAlarmsWrongFalsely : Prop := replicaAlarmsRow.holds Try.pinned (OpenSpec.ofChange replicaAlarmsWrong)

/-- 'scullinglaw.MachinePlays': WHATEVER THE INPUT: true; the input reads as it did. -/
def machinePlaysSpec : ChangeSpec := { name := "machinePlays", fn := fun _ => fun
  | [d] => { results := [.lit (.bool true)], args := [d] }
  | _ => none }
def machinePlaysRow : OpenClaim := { program := "ytjofalgbelecbaa", sum := "9fc1f3cb05e93067f9748054c7b6ab6efa735a10ef44956054a9ef725e029471", func := "sculling/scullinglaw.MachinePlays", spec := "machinePlays", unfollowed := true, recurses := true, apart := false }
def MachinePlaysSaid : Prop := machinePlaysRow.holds Try.pinned (OpenSpec.ofChange machinePlaysSpec)

/-- ITS FALSE NEIGHBOUR: 'it returns false'. Refute it at one input. -/
def machinePlaysWrong : ChangeSpec := { name := "machinePlays", fn := fun _ => fun
  | [d] => { results := [.lit (.bool false)], args := [d] }
  | _ => none }
def MachinePlaysWrongFalsely : Prop := machinePlaysRow.holds Try.pinned (OpenSpec.ofChange machinePlaysWrong)

/-- 'scullinglaw.StageStores': WHATEVER THE INPUT: true; the input reads as it did. -/
def stageStoresSpec : ChangeSpec := { name := "stageStores", fn := fun _ => fun
  | [d1, d2, d3] => { results := [.lit (.bool true)], args := [d1, d2, d3] }
  | _ => none }
def stageStoresRow : OpenClaim := { program := "ytjofalgbelecbaa", sum := "9fc1f3cb05e93067f9748054c7b6ab6efa735a10ef44956054a9ef725e029471", func := "sculling/scullinglaw.StageStores", spec := "stageStores", apart := false }
def StageStoresSaid : Prop := stageStoresRow.holds Try.pinned (OpenSpec.ofChange stageStoresSpec)

/-- ITS FALSE NEIGHBOUR: 'it returns false'. Refute it at one input. -/
def stageStoresWrong : ChangeSpec := { name := "stageStores", fn := fun _ => fun
  | [d1, d2, d3] => { results := [.lit (.bool false)], args := [d1, d2, d3] }
  | _ => none }
def StageStoresWrongFalsely : Prop := stageStoresRow.holds Try.pinned (OpenSpec.ofChange stageStoresWrong)

/-- 'scullinglaw.ReplicaHears': WHATEVER THE INPUT: true; the input reads as it did. -/
def replicaHearsSpec : ChangeSpec := { name := "replicaHears", fn := fun _ => fun
  | [d1, d2] => { results := [.lit (.bool true)], args := [d1, d2] }
  | _ => none }
def replicaHearsRow : OpenClaim := { program := "ytjofalgbelecbaa", sum := "9fc1f3cb05e93067f9748054c7b6ab6efa735a10ef44956054a9ef725e029471", func := "sculling/scullinglaw.ReplicaHears", spec := "replicaHears", apart := false }
def ReplicaHearsSaid : Prop := replicaHearsRow.holds Try.pinned (OpenSpec.ofChange replicaHearsSpec)

/-- ITS FALSE NEIGHBOUR: 'it returns false'. Refute it at one input. -/
def replicaHearsWrong : ChangeSpec := { name := "replicaHears", fn := fun _ => fun
  | [d1, d2] => { results := [.lit (.bool false)], args := [d1, d2] }
  | _ => none }
def ReplicaHearsWrongFalsely : Prop := replicaHearsRow.holds Try.pinned (OpenSpec.ofChange replicaHearsWrong)

/- THE SECOND FORM. 'bulk': how many values and letters a reading holds, each counted each time it is reached (what is shared counts as often as it is met; a slice's spare places count too). A statement '..UptoSaid' is the law's where the arguments, and the package variables that the reading takes, are together of bulk at most 1048576: NARROWER than '..Said'. Prove '..Said' where nothing that the law and all that it calls make is longer than what came in: it says more and counts as full. Else prove '..UptoSaid'. A law counts once. -/
mutual
def uptoBulk {H : Type} : DataW H → Nat
  | .lit (.string bytes) => bytes.length + 1
  | .lit _ => 1
  | .nil => 1
  | .ptr d => uptoBulk d + 1
  | .slice elems spare => uptoBulkAll elems + uptoBulkAll spare + 1
  | .agg parts => uptoBulkAll parts + 1
  | .iface _ d => uptoBulk d + 1
  | .map entries => uptoBulkEntries entries + 1
  | .held _ => 1
def uptoBulkAll {H : Type} : List (DataW H) → Nat
  | [] => 0
  | d :: r => uptoBulk d + uptoBulkAll r
def uptoBulkEntries {H : Type} : List (Lit × DataW H) → Nat
  | [] => 0
  | x :: r => uptoBulkEntry x + uptoBulkEntries r
def uptoBulkEntry {H : Type} : Lit × DataW H → Nat
  | (.string bytes, d) => bytes.length + uptoBulk d + 1
  | (_, d) => uptoBulk d + 1
 end
def uptoSmall : (H : Type) → List (DataW H) → Bool := fun _ ds => decide (uptoBulkAll ds ≤ 1048576)
def OpenSpec.upto (s : _root_.Go.ChangeSpec) : _root_.Go.OpenSpec := { _root_.Go.OpenSpec.ofChange s with cond := some uptoSmall }

/-- 'scullinglaw.Names', WHERE WHAT IT READS IS OF BULK AT MOST 1048576: true; the input reads as it did. -/
def namesUptoRow : OpenClaim := { program := "ytjofalgbelecbaa", sum := "9fc1f3cb05e93067f9748054c7b6ab6efa735a10ef44956054a9ef725e029471", func := "sculling/scullinglaw.Names", spec := "names", apart := false, narrowed := true }
def NamesUptoSaid : Prop := namesUptoRow.holds Try.pinned (OpenSpec.upto namesSpec)

/-- 'scullinglaw.VolumeNew', WHERE WHAT IT READS IS OF BULK AT MOST 1048576: true; the input reads as it did. -/
def volumeNewUptoRow : OpenClaim := { program := "ytjofalgbelecbaa", sum := "9fc1f3cb05e93067f9748054c7b6ab6efa735a10ef44956054a9ef725e029471", func := "sculling/scullinglaw.VolumeNew", spec := "volumeNew", apart := false, narrowed := true }
def VolumeNewUptoSaid : Prop := volumeNewUptoRow.holds Try.pinned (OpenSpec.upto volumeNewSpec)

/-- 'scullinglaw.ReplicaLeaders', WHERE WHAT IT READS IS OF BULK AT MOST 1048576: true; the input reads as it did. -/
def replicaLeadersUptoRow : OpenClaim := { program := "ytjofalgbelecbaa", sum := "9fc1f3cb05e93067f9748054c7b6ab6efa735a10ef44956054a9ef725e029471", func := "sculling/scullinglaw.ReplicaLeaders", spec := "replicaLeaders", apart := false, narrowed := true }
def ReplicaLeadersUptoSaid : Prop := replicaLeadersUptoRow.holds Try.pinned (OpenSpec.upto replicaLeadersSpec)

/-- 'scullinglaw.ReplicaLeads', WHERE WHAT IT READS IS OF BULK AT MOST 1048576: true; the input reads as it did. -/
def replicaLeadsUptoRow : OpenClaim := { program := "ytjofalgbelecbaa", sum := "9fc1f3cb05e93067f9748054c7b6ab6efa735a10ef44956054a9ef725e029471", func := "sculling/scullinglaw.ReplicaLeads", spec := "replicaLeads", apart := false, narrowed := true }
def ReplicaLeadsUptoSaid : Prop := replicaLeadsUptoRow.holds Try.pinned (OpenSpec.upto replicaLeadsSpec)

/-- 'scullinglaw.MachineNew', WHERE WHAT IT READS IS OF BULK AT MOST 1048576: true; the input reads as it did. -/
def machineNewUptoRow : OpenClaim := { program := "ytjofalgbelecbaa", sum := "9fc1f3cb05e93067f9748054c7b6ab6efa735a10ef44956054a9ef725e029471", func := "sculling/scullinglaw.MachineNew", spec := "machineNew", apart := false, narrowed := true }
def MachineNewUptoSaid : Prop := machineNewUptoRow.holds Try.pinned (OpenSpec.upto machineNewSpec)

/-- 'scullinglaw.CodecNumbers', WHERE WHAT IT READS IS OF BULK AT MOST 1048576: true; the input reads as it did. -/
def codecNumbersUptoRow : OpenClaim := { program := "ytjofalgbelecbaa", sum := "9fc1f3cb05e93067f9748054c7b6ab6efa735a10ef44956054a9ef725e029471", func := "sculling/scullinglaw.CodecNumbers", spec := "codecNumbers", apart := false, narrowed := true }
def CodecNumbersUptoSaid : Prop := codecNumbersUptoRow.holds Try.pinned (OpenSpec.upto codecNumbersSpec)

/-- 'scullinglaw.CodecTexts', WHERE WHAT IT READS IS OF BULK AT MOST 1048576: true; the input reads as it did. -/
def codecTextsUptoRow : OpenClaim := { program := "ytjofalgbelecbaa", sum := "9fc1f3cb05e93067f9748054c7b6ab6efa735a10ef44956054a9ef725e029471", func := "sculling/scullinglaw.CodecTexts", spec := "codecTexts", apart := false, narrowed := true }
def CodecTextsUptoSaid : Prop := codecTextsUptoRow.holds Try.pinned (OpenSpec.upto codecTextsSpec)

/-- 'scullinglaw.CodecTells', WHERE WHAT IT READS IS OF BULK AT MOST 1048576: true; the input reads as it did. -/
def codecTellsUptoRow : OpenClaim := { program := "ytjofalgbelecbaa", sum := "9fc1f3cb05e93067f9748054c7b6ab6efa735a10ef44956054a9ef725e029471", func := "sculling/scullinglaw.CodecTells", spec := "codecTells", apart := false, narrowed := true }
def CodecTellsUptoSaid : Prop := codecTellsUptoRow.holds Try.pinned (OpenSpec.upto codecTellsSpec)

/-- 'scullinglaw.CodecSeals', WHERE WHAT IT READS IS OF BULK AT MOST 1048576: true; the input reads as it did. -/
def codecSealsUptoRow : OpenClaim := { program := "ytjofalgbelecbaa", sum := "9fc1f3cb05e93067f9748054c7b6ab6efa735a10ef44956054a9ef725e029471", func := "sculling/scullinglaw.CodecSeals", spec := "codecSeals", apart := false, narrowed := true }
def CodecSealsUptoSaid : Prop := codecSealsUptoRow.holds Try.pinned (OpenSpec.upto codecSealsSpec)

/-- 'scullinglaw.CodecReads', WHERE WHAT IT READS IS OF BULK AT MOST 1048576: true; the input reads as it did. -/
def codecReadsUptoRow : OpenClaim := { program := "ytjofalgbelecbaa", sum := "9fc1f3cb05e93067f9748054c7b6ab6efa735a10ef44956054a9ef725e029471", func := "sculling/scullinglaw.CodecReads", spec := "codecReads", apart := false, narrowed := true }
def CodecReadsUptoSaid : Prop := codecReadsUptoRow.holds Try.pinned (OpenSpec.upto codecReadsSpec)

/-- 'scullinglaw.VolumeOps', WHERE WHAT IT READS IS OF BULK AT MOST 1048576: true; the input reads as it did. -/
def volumeOpsUptoRow : OpenClaim := { program := "ytjofalgbelecbaa", sum := "9fc1f3cb05e93067f9748054c7b6ab6efa735a10ef44956054a9ef725e029471", func := "sculling/scullinglaw.VolumeOps", spec := "volumeOps", apart := false, narrowed := true }
def VolumeOpsUptoSaid : Prop := volumeOpsUptoRow.holds Try.pinned (OpenSpec.upto volumeOpsSpec)

/-- 'scullinglaw.StageCopies', WHERE WHAT IT READS IS OF BULK AT MOST 1048576: true; the input reads as it did. -/
def stageCopiesUptoRow : OpenClaim := { program := "ytjofalgbelecbaa", sum := "9fc1f3cb05e93067f9748054c7b6ab6efa735a10ef44956054a9ef725e029471", func := "sculling/scullinglaw.StageCopies", spec := "stageCopies", apart := false, narrowed := true }
def StageCopiesUptoSaid : Prop := stageCopiesUptoRow.holds Try.pinned (OpenSpec.upto stageCopiesSpec)

/-- 'scullinglaw.VolumeCopies', WHERE WHAT IT READS IS OF BULK AT MOST 1048576: true; the input reads as it did. -/
def volumeCopiesUptoRow : OpenClaim := { program := "ytjofalgbelecbaa", sum := "9fc1f3cb05e93067f9748054c7b6ab6efa735a10ef44956054a9ef725e029471", func := "sculling/scullinglaw.VolumeCopies", spec := "volumeCopies", apart := false, narrowed := true }
def VolumeCopiesUptoSaid : Prop := volumeCopiesUptoRow.holds Try.pinned (OpenSpec.upto volumeCopiesSpec)

/-- 'scullinglaw.MachineRequests', WHERE WHAT IT READS IS OF BULK AT MOST 1048576: true; the input reads as it did. -/
def machineRequestsUptoRow : OpenClaim := { program := "ytjofalgbelecbaa", sum := "9fc1f3cb05e93067f9748054c7b6ab6efa735a10ef44956054a9ef725e029471", func := "sculling/scullinglaw.MachineRequests", spec := "machineRequests", apart := false, narrowed := true }
def MachineRequestsUptoSaid : Prop := machineRequestsUptoRow.holds Try.pinned (OpenSpec.upto machineRequestsSpec)

/-- 'scullinglaw.VolumeChecks', WHERE WHAT IT READS IS OF BULK AT MOST 1048576: true; the input reads as it did. -/
def volumeChecksUptoRow : OpenClaim := { program := "ytjofalgbelecbaa", sum := "9fc1f3cb05e93067f9748054c7b6ab6efa735a10ef44956054a9ef725e029471", func := "sculling/scullinglaw.VolumeChecks", spec := "volumeChecks", unfollowed := true, recurses := true, apart := false, narrowed := true }
def VolumeChecksUptoSaid : Prop := volumeChecksUptoRow.holds Try.pinned (OpenSpec.upto volumeChecksSpec)

/-- 'scullinglaw.ReplicaCopies', WHERE WHAT IT READS IS OF BULK AT MOST 1048576: true; the input reads as it did. -/
def replicaCopiesUptoRow : OpenClaim := { program := "ytjofalgbelecbaa", sum := "9fc1f3cb05e93067f9748054c7b6ab6efa735a10ef44956054a9ef725e029471", func := "sculling/scullinglaw.ReplicaCopies", spec := "replicaCopies", apart := false, narrowed := true }
def ReplicaCopiesUptoSaid : Prop := replicaCopiesUptoRow.holds Try.pinned (OpenSpec.upto replicaCopiesSpec)

/-- 'scullinglaw.MachineChecks', WHERE WHAT IT READS IS OF BULK AT MOST 1048576: true; the input reads as it did. -/
def machineChecksUptoRow : OpenClaim := { program := "ytjofalgbelecbaa", sum := "9fc1f3cb05e93067f9748054c7b6ab6efa735a10ef44956054a9ef725e029471", func := "sculling/scullinglaw.MachineChecks", spec := "machineChecks", unfollowed := true, recurses := true, apart := false, narrowed := true }
def MachineChecksUptoSaid : Prop := machineChecksUptoRow.holds Try.pinned (OpenSpec.upto machineChecksSpec)

/-- 'scullinglaw.MachineEncodes', WHERE WHAT IT READS IS OF BULK AT MOST 1048576: true; the input reads as it did. -/
def machineEncodesUptoRow : OpenClaim := { program := "ytjofalgbelecbaa", sum := "9fc1f3cb05e93067f9748054c7b6ab6efa735a10ef44956054a9ef725e029471", func := "sculling/scullinglaw.MachineEncodes", spec := "machineEncodes", apart := false, narrowed := true }
def MachineEncodesUptoSaid : Prop := machineEncodesUptoRow.holds Try.pinned (OpenSpec.upto machineEncodesSpec)

/-- 'scullinglaw.MachineDecodes', WHERE WHAT IT READS IS OF BULK AT MOST 1048576: true; the input reads as it did. -/
def machineDecodesUptoRow : OpenClaim := { program := "ytjofalgbelecbaa", sum := "9fc1f3cb05e93067f9748054c7b6ab6efa735a10ef44956054a9ef725e029471", func := "sculling/scullinglaw.MachineDecodes", spec := "machineDecodes", apart := false, narrowed := true }
def MachineDecodesUptoSaid : Prop := machineDecodesUptoRow.holds Try.pinned (OpenSpec.upto machineDecodesSpec)

/-- 'scullinglaw.VolumeDoes', WHERE WHAT IT READS IS OF BULK AT MOST 1048576: true; the input reads as it did. -/
def volumeDoesUptoRow : OpenClaim := { program := "ytjofalgbelecbaa", sum := "9fc1f3cb05e93067f9748054c7b6ab6efa735a10ef44956054a9ef725e029471", func := "sculling/scullinglaw.VolumeDoes", spec := "volumeDoes", unfollowed := true, recurses := true, apart := false, narrowed := true }
def VolumeDoesUptoSaid : Prop := volumeDoesUptoRow.holds Try.pinned (OpenSpec.upto volumeDoesSpec)

/-- 'scullinglaw.StageChecks', WHERE WHAT IT READS IS OF BULK AT MOST 1048576: true; the input reads as it did. -/
def stageChecksUptoRow : OpenClaim := { program := "ytjofalgbelecbaa", sum := "9fc1f3cb05e93067f9748054c7b6ab6efa735a10ef44956054a9ef725e029471", func := "sculling/scullinglaw.StageChecks", spec := "stageChecks", apart := false, narrowed := true }
def StageChecksUptoSaid : Prop := stageChecksUptoRow.holds Try.pinned (OpenSpec.upto stageChecksSpec)

/-- 'scullinglaw.ReplicaChecks', WHERE WHAT IT READS IS OF BULK AT MOST 1048576: true; the input reads as it did. -/
def replicaChecksUptoRow : OpenClaim := { program := "ytjofalgbelecbaa", sum := "9fc1f3cb05e93067f9748054c7b6ab6efa735a10ef44956054a9ef725e029471", func := "sculling/scullinglaw.ReplicaChecks", spec := "replicaChecks", apart := false, narrowed := true }
def ReplicaChecksUptoSaid : Prop := replicaChecksUptoRow.holds Try.pinned (OpenSpec.upto replicaChecksSpec)

/-- 'scullinglaw.ReplicaMessages', WHERE WHAT IT READS IS OF BULK AT MOST 1048576: true; the input reads as it did. -/
def replicaMessagesUptoRow : OpenClaim := { program := "ytjofalgbelecbaa", sum := "9fc1f3cb05e93067f9748054c7b6ab6efa735a10ef44956054a9ef725e029471", func := "sculling/scullinglaw.ReplicaMessages", spec := "replicaMessages", apart := false, narrowed := true }
def ReplicaMessagesUptoSaid : Prop := replicaMessagesUptoRow.holds Try.pinned (OpenSpec.upto replicaMessagesSpec)

/-- 'scullinglaw.ReplicaNews', WHERE WHAT IT READS IS OF BULK AT MOST 1048576: true; the input reads as it did. -/
def replicaNewsUptoRow : OpenClaim := { program := "ytjofalgbelecbaa", sum := "9fc1f3cb05e93067f9748054c7b6ab6efa735a10ef44956054a9ef725e029471", func := "sculling/scullinglaw.ReplicaNews", spec := "replicaNews", apart := false, narrowed := true }
def ReplicaNewsUptoSaid : Prop := replicaNewsUptoRow.holds Try.pinned (OpenSpec.upto replicaNewsSpec)

/-- 'scullinglaw.StageEncodes', WHERE WHAT IT READS IS OF BULK AT MOST 1048576: true; the input reads as it did. -/
def stageEncodesUptoRow : OpenClaim := { program := "ytjofalgbelecbaa", sum := "9fc1f3cb05e93067f9748054c7b6ab6efa735a10ef44956054a9ef725e029471", func := "sculling/scullinglaw.StageEncodes", spec := "stageEncodes", apart := false, narrowed := true }
def StageEncodesUptoSaid : Prop := stageEncodesUptoRow.holds Try.pinned (OpenSpec.upto stageEncodesSpec)

/-- 'scullinglaw.StageDecodes', WHERE WHAT IT READS IS OF BULK AT MOST 1048576: true; the input reads as it did. -/
def stageDecodesUptoRow : OpenClaim := { program := "ytjofalgbelecbaa", sum := "9fc1f3cb05e93067f9748054c7b6ab6efa735a10ef44956054a9ef725e029471", func := "sculling/scullinglaw.StageDecodes", spec := "stageDecodes", apart := false, narrowed := true }
def StageDecodesUptoSaid : Prop := stageDecodesUptoRow.holds Try.pinned (OpenSpec.upto stageDecodesSpec)

/-- 'scullinglaw.StageNew', WHERE WHAT IT READS IS OF BULK AT MOST 1048576: true; the input reads as it did. -/
def stageNewUptoRow : OpenClaim := { program := "ytjofalgbelecbaa", sum := "9fc1f3cb05e93067f9748054c7b6ab6efa735a10ef44956054a9ef725e029471", func := "sculling/scullinglaw.StageNew", spec := "stageNew", apart := false, narrowed := true }
def StageNewUptoSaid : Prop := stageNewUptoRow.holds Try.pinned (OpenSpec.upto stageNewSpec)

/-- 'scullinglaw.StageLoads', WHERE WHAT IT READS IS OF BULK AT MOST 1048576: true; the input reads as it did. -/
def stageLoadsUptoRow : OpenClaim := { program := "ytjofalgbelecbaa", sum := "9fc1f3cb05e93067f9748054c7b6ab6efa735a10ef44956054a9ef725e029471", func := "sculling/scullinglaw.StageLoads", spec := "stageLoads", apart := false, narrowed := true }
def StageLoadsUptoSaid : Prop := stageLoadsUptoRow.holds Try.pinned (OpenSpec.upto stageLoadsSpec)

/-- 'scullinglaw.MachineApplies', WHERE WHAT IT READS IS OF BULK AT MOST 1048576: true; the input reads as it did. -/
def machineAppliesUptoRow : OpenClaim := { program := "ytjofalgbelecbaa", sum := "9fc1f3cb05e93067f9748054c7b6ab6efa735a10ef44956054a9ef725e029471", func := "sculling/scullinglaw.MachineApplies", spec := "machineApplies", unfollowed := true, recurses := true, apart := false, narrowed := true }
def MachineAppliesUptoSaid : Prop := machineAppliesUptoRow.holds Try.pinned (OpenSpec.upto machineAppliesSpec)

/-- 'scullinglaw.ReplicaTicks', WHERE WHAT IT READS IS OF BULK AT MOST 1048576: true; the input reads as it did. -/
def replicaTicksUptoRow : OpenClaim := { program := "ytjofalgbelecbaa", sum := "9fc1f3cb05e93067f9748054c7b6ab6efa735a10ef44956054a9ef725e029471", func := "sculling/scullinglaw.ReplicaTicks", spec := "replicaTicks", apart := false, narrowed := true }
def ReplicaTicksUptoSaid : Prop := replicaTicksUptoRow.holds Try.pinned (OpenSpec.upto replicaTicksSpec)

/-- 'scullinglaw.ReplicaTakes', WHERE WHAT IT READS IS OF BULK AT MOST 1048576: true; the input reads as it did. -/
def replicaTakesUptoRow : OpenClaim := { program := "ytjofalgbelecbaa", sum := "9fc1f3cb05e93067f9748054c7b6ab6efa735a10ef44956054a9ef725e029471", func := "sculling/scullinglaw.ReplicaTakes", spec := "replicaTakes", apart := false, narrowed := true }
def ReplicaTakesUptoSaid : Prop := replicaTakesUptoRow.holds Try.pinned (OpenSpec.upto replicaTakesSpec)

/-- 'scullinglaw.ReplicaAlarms', WHERE WHAT IT READS IS OF BULK AT MOST 1048576: true; the input reads as it did. -/
def replicaAlarmsUptoRow : OpenClaim := { program := "ytjofalgbelecbaa", sum := "9fc1f3cb05e93067f9748054c7b6ab6efa735a10ef44956054a9ef725e029471", func := "sculling/scullinglaw.ReplicaAlarms", spec := "replicaAlarms", apart := false, narrowed := true }
def ReplicaAlarmsUptoSaid : Prop := replicaAlarmsUptoRow.holds Try.pinned (OpenSpec.upto replicaAlarmsSpec)

/-- 'scullinglaw.MachinePlays', WHERE WHAT IT READS IS OF BULK AT MOST 1048576: true; the input reads as it did. -/
def machinePlaysUptoRow : OpenClaim := { program := "ytjofalgbelecbaa", sum := "9fc1f3cb05e93067f9748054c7b6ab6efa735a10ef44956054a9ef725e029471", func := "sculling/scullinglaw.MachinePlays", spec := "machinePlays", unfollowed := true, recurses := true, apart := false, narrowed := true }
def MachinePlaysUptoSaid : Prop := machinePlaysUptoRow.holds Try.pinned (OpenSpec.upto machinePlaysSpec)

/-- 'scullinglaw.StageStores', WHERE WHAT IT READS IS OF BULK AT MOST 1048576: true; the input reads as it did. -/
def stageStoresUptoRow : OpenClaim := { program := "ytjofalgbelecbaa", sum := "9fc1f3cb05e93067f9748054c7b6ab6efa735a10ef44956054a9ef725e029471", func := "sculling/scullinglaw.StageStores", spec := "stageStores", apart := false, narrowed := true }
def StageStoresUptoSaid : Prop := stageStoresUptoRow.holds Try.pinned (OpenSpec.upto stageStoresSpec)

/-- 'scullinglaw.ReplicaHears', WHERE WHAT IT READS IS OF BULK AT MOST 1048576: true; the input reads as it did. -/
def replicaHearsUptoRow : OpenClaim := { program := "ytjofalgbelecbaa", sum := "9fc1f3cb05e93067f9748054c7b6ab6efa735a10ef44956054a9ef725e029471", func := "sculling/scullinglaw.ReplicaHears", spec := "replicaHears", apart := false, narrowed := true }
def ReplicaHearsUptoSaid : Prop := replicaHearsUptoRow.holds Try.pinned (OpenSpec.upto replicaHearsSpec)

end Rows
end Go.Proofs.Ytjofalgbelecbaa

/-
  No cell of these rows narrows 'for every input' (looked for: loops, veiled, ifaces, maps, wideKeys, modest, calm, conditions, laid).
  DERIVED. THE GIVEN ROWS OF THIS SEAT. 10 by the template 'for every input the law returns true; each argument reads behind the call as it read before'; 0 by the template 'total and deterministic' (their statements: YthoofldinnfpiaaTotals.lean).
  GIVEN WITH THE SEED: the statements are not yours to turn. If you find one false, say at which input.
  Laid BY PROGRAM, IN A SANDBOX (cutbox-rows.mjs): the forced cells as the released guide's own fill.sh prints them over the translation 0897b38752a9576a… (all of the seat's roots in one cut). By AI agents, Wed Nov 11 2026. No macro, syntax, notation, axiom, sorry.
-/
import Derived.Test.YthoofldinnfpiaaChecked
import GoSem.Claim
import GoSem.ClaimJoined
import GoSem.ClaimMapViews
import Derived.JoinedTies
import Derived.KernelRfl
namespace Go.Proofs.Ythoofldinnfpiaa
/- THE CELL 'sum', in the pinned program and in every row, IS THE sha256 OF THE DUMP (.gsa) THAT YthoofldinnfpiaaProg.lean LOADS. Nothing in Lean hashes anything: it is a label: what it is worth is what the hold of that sum in a sandbox is worth. -/
noncomputable def Try.pinned : Pinned := { name := "ythoofldinnfpiaa", sum := "0897b38752a9576a4e67d800f76f765199a5ae00348a56737320cc389eced1cd", checked := Try.checked }
namespace Rows
def none {H : Type} : Left H := { results := [], args := [] }

/-- 'culletlaw05.StrengthChecks': WHATEVER THE INPUT: true; the input reads as it did. -/
def strengthChecksSpec : ChangeSpec := { name := "strengthChecks", fn := fun _ => fun
  | [d1, d2] => { results := [.lit (.bool true)], args := [d1, d2] }
  | _ => none }
def strengthChecksRow : OpenClaim := { program := "ythoofldinnfpiaa", sum := "0897b38752a9576a4e67d800f76f765199a5ae00348a56737320cc389eced1cd", func := "cullet/culletlaw05.StrengthChecks", spec := "strengthChecks", unfollowed := true, recurses := true, apart := false }
def StrengthChecksSaid : Prop := strengthChecksRow.holds Try.pinned (OpenSpec.ofChange strengthChecksSpec)

/-- ITS FALSE NEIGHBOUR: 'it returns false'. Refute it at one input. -/
def strengthChecksWrong : ChangeSpec := { name := "strengthChecks", fn := fun _ => fun
  | [d1, d2] => { results := [.lit (.bool false)], args := [d1, d2] }
  | _ => none }
def StrengthChecksWrongFalsely : Prop := strengthChecksRow.holds Try.pinned (OpenSpec.ofChange strengthChecksWrong)

/-- 'culletlaw05.StrengthLehrs': WHATEVER THE INPUT: true; the input reads as it did. -/
def strengthLehrsSpec : ChangeSpec := { name := "strengthLehrs", fn := fun _ => fun
  | [d1, d2] => { results := [.lit (.bool true)], args := [d1, d2] }
  | _ => none }
def strengthLehrsRow : OpenClaim := { program := "ythoofldinnfpiaa", sum := "0897b38752a9576a4e67d800f76f765199a5ae00348a56737320cc389eced1cd", func := "cullet/culletlaw05.StrengthLehrs", spec := "strengthLehrs", unfollowed := true, recurses := true, apart := false }
def StrengthLehrsSaid : Prop := strengthLehrsRow.holds Try.pinned (OpenSpec.ofChange strengthLehrsSpec)

/-- ITS FALSE NEIGHBOUR: 'it returns false'. Refute it at one input. -/
def strengthLehrsWrong : ChangeSpec := { name := "strengthLehrs", fn := fun _ => fun
  | [d1, d2] => { results := [.lit (.bool false)], args := [d1, d2] }
  | _ => none }
def StrengthLehrsWrongFalsely : Prop := strengthLehrsRow.holds Try.pinned (OpenSpec.ofChange strengthLehrsWrong)

/-- 'culletlaw05.StrengthMore': WHATEVER THE INPUT: true; the input reads as it did. -/
def strengthMoreSpec : ChangeSpec := { name := "strengthMore", fn := fun _ => fun
  | [d1, d2, d3] => { results := [.lit (.bool true)], args := [d1, d2, d3] }
  | _ => none }
def strengthMoreRow : OpenClaim := { program := "ythoofldinnfpiaa", sum := "0897b38752a9576a4e67d800f76f765199a5ae00348a56737320cc389eced1cd", func := "cullet/culletlaw05.StrengthMore", spec := "strengthMore", unfollowed := true, recurses := true, apart := false }
def StrengthMoreSaid : Prop := strengthMoreRow.holds Try.pinned (OpenSpec.ofChange strengthMoreSpec)

/-- ITS FALSE NEIGHBOUR: 'it returns false'. Refute it at one input. -/
def strengthMoreWrong : ChangeSpec := { name := "strengthMore", fn := fun _ => fun
  | [d1, d2, d3] => { results := [.lit (.bool false)], args := [d1, d2, d3] }
  | _ => none }
def StrengthMoreWrongFalsely : Prop := strengthMoreRow.holds Try.pinned (OpenSpec.ofChange strengthMoreWrong)

/-- 'culletlaw05.StrengthThin': WHATEVER THE INPUT: true; the input reads as it did. -/
def strengthThinSpec : ChangeSpec := { name := "strengthThin", fn := fun _ => fun
  | [d1, d2] => { results := [.lit (.bool true)], args := [d1, d2] }
  | _ => none }
def strengthThinRow : OpenClaim := { program := "ythoofldinnfpiaa", sum := "0897b38752a9576a4e67d800f76f765199a5ae00348a56737320cc389eced1cd", func := "cullet/culletlaw05.StrengthThin", spec := "strengthThin", unfollowed := true, recurses := true, apart := false }
def StrengthThinSaid : Prop := strengthThinRow.holds Try.pinned (OpenSpec.ofChange strengthThinSpec)

/-- ITS FALSE NEIGHBOUR: 'it returns false'. Refute it at one input. -/
def strengthThinWrong : ChangeSpec := { name := "strengthThin", fn := fun _ => fun
  | [d1, d2] => { results := [.lit (.bool false)], args := [d1, d2] }
  | _ => none }
def StrengthThinWrongFalsely : Prop := strengthThinRow.holds Try.pinned (OpenSpec.ofChange strengthThinWrong)

/-- 'culletlaw05.StrengthBursts': WHATEVER THE INPUT: true; the input reads as it did. -/
def strengthBurstsSpec : ChangeSpec := { name := "strengthBursts", fn := fun _ => fun
  | [d1, d2] => { results := [.lit (.bool true)], args := [d1, d2] }
  | _ => none }
def strengthBurstsRow : OpenClaim := { program := "ythoofldinnfpiaa", sum := "0897b38752a9576a4e67d800f76f765199a5ae00348a56737320cc389eced1cd", func := "cullet/culletlaw05.StrengthBursts", spec := "strengthBursts", unfollowed := true, recurses := true, apart := false }
def StrengthBurstsSaid : Prop := strengthBurstsRow.holds Try.pinned (OpenSpec.ofChange strengthBurstsSpec)

/-- ITS FALSE NEIGHBOUR: 'it returns false'. Refute it at one input. -/
def strengthBurstsWrong : ChangeSpec := { name := "strengthBursts", fn := fun _ => fun
  | [d1, d2] => { results := [.lit (.bool false)], args := [d1, d2] }
  | _ => none }
def StrengthBurstsWrongFalsely : Prop := strengthBurstsRow.holds Try.pinned (OpenSpec.ofChange strengthBurstsWrong)

/-- 'culletlaw05.StrengthStresses': WHATEVER THE INPUT: true; the input reads as it did. -/
def strengthStressesSpec : ChangeSpec := { name := "strengthStresses", fn := fun _ => fun
  | [d1, d2] => { results := [.lit (.bool true)], args := [d1, d2] }
  | _ => none }
def strengthStressesRow : OpenClaim := { program := "ythoofldinnfpiaa", sum := "0897b38752a9576a4e67d800f76f765199a5ae00348a56737320cc389eced1cd", func := "cullet/culletlaw05.StrengthStresses", spec := "strengthStresses", unfollowed := true, recurses := true, apart := false }
def StrengthStressesSaid : Prop := strengthStressesRow.holds Try.pinned (OpenSpec.ofChange strengthStressesSpec)

/-- ITS FALSE NEIGHBOUR: 'it returns false'. Refute it at one input. -/
def strengthStressesWrong : ChangeSpec := { name := "strengthStresses", fn := fun _ => fun
  | [d1, d2] => { results := [.lit (.bool false)], args := [d1, d2] }
  | _ => none }
def StrengthStressesWrongFalsely : Prop := strengthStressesRow.holds Try.pinned (OpenSpec.ofChange strengthStressesWrong)

/-- 'culletlaw05.StrengthInside': WHATEVER THE INPUT: true; the input reads as it did. -/
def strengthInsideSpec : ChangeSpec := { name := "strengthInside", fn := fun _ => fun
  | [d1, d2, d3] => { results := [.lit (.bool true)], args := [d1, d2, d3] }
  | _ => none }
def strengthInsideRow : OpenClaim := { program := "ythoofldinnfpiaa", sum := "0897b38752a9576a4e67d800f76f765199a5ae00348a56737320cc389eced1cd", func := "cullet/culletlaw05.StrengthInside", spec := "strengthInside", unfollowed := true, recurses := true, apart := false }
def StrengthInsideSaid : Prop := strengthInsideRow.holds Try.pinned (OpenSpec.ofChange strengthInsideSpec)

/-- ITS FALSE NEIGHBOUR: 'it returns false'. Refute it at one input. -/
def strengthInsideWrong : ChangeSpec := { name := "strengthInside", fn := fun _ => fun
  | [d1, d2, d3] => { results := [.lit (.bool false)], args := [d1, d2, d3] }
  | _ => none }
def StrengthInsideWrongFalsely : Prop := strengthInsideRow.holds Try.pinned (OpenSpec.ofChange strengthInsideWrong)

/-- 'culletlaw05.StrengthPasses': WHATEVER THE INPUT: true; the input reads as it did. -/
def strengthPassesSpec : ChangeSpec := { name := "strengthPasses", fn := fun _ => fun
  | [d1, d2] => { results := [.lit (.bool true)], args := [d1, d2] }
  | _ => none }
def strengthPassesRow : OpenClaim := { program := "ythoofldinnfpiaa", sum := "0897b38752a9576a4e67d800f76f765199a5ae00348a56737320cc389eced1cd", func := "cullet/culletlaw05.StrengthPasses", spec := "strengthPasses", unfollowed := true, recurses := true, apart := false }
def StrengthPassesSaid : Prop := strengthPassesRow.holds Try.pinned (OpenSpec.ofChange strengthPassesSpec)

/-- ITS FALSE NEIGHBOUR: 'it returns false'. Refute it at one input. -/
def strengthPassesWrong : ChangeSpec := { name := "strengthPasses", fn := fun _ => fun
  | [d1, d2] => { results := [.lit (.bool false)], args := [d1, d2] }
  | _ => none }
def StrengthPassesWrongFalsely : Prop := strengthPassesRow.holds Try.pinned (OpenSpec.ofChange strengthPassesWrong)

/-- 'culletlaw05.StrengthNeeds': WHATEVER THE INPUT: true; the input reads as it did. -/
def strengthNeedsSpec : ChangeSpec := { name := "strengthNeeds", fn := fun _ => fun
  | [d1, d2] => { results := [.lit (.bool true)], args := [d1, d2] }
  | _ => none }
def strengthNeedsRow : OpenClaim := { program := "ythoofldinnfpiaa", sum := "0897b38752a9576a4e67d800f76f765199a5ae00348a56737320cc389eced1cd", func := "cullet/culletlaw05.StrengthNeeds", spec := "strengthNeeds", unfollowed := true, recurses := true, apart := false }
def StrengthNeedsSaid : Prop := strengthNeedsRow.holds Try.pinned (OpenSpec.ofChange strengthNeedsSpec)

/-- ITS FALSE NEIGHBOUR: 'it returns false'. Refute it at one input. -/
def strengthNeedsWrong : ChangeSpec := { name := "strengthNeeds", fn := fun _ => fun
  | [d1, d2] => { results := [.lit (.bool false)], args := [d1, d2] }
  | _ => none }
def StrengthNeedsWrongFalsely : Prop := strengthNeedsRow.holds Try.pinned (OpenSpec.ofChange strengthNeedsWrong)

/-- 'culletlaw05.StrengthWeights': WHATEVER THE INPUT: true; the input reads as it did. -/
def strengthWeightsSpec : ChangeSpec := { name := "strengthWeights", fn := fun _ => fun
  | [d1, d2] => { results := [.lit (.bool true)], args := [d1, d2] }
  | _ => none }
def strengthWeightsRow : OpenClaim := { program := "ythoofldinnfpiaa", sum := "0897b38752a9576a4e67d800f76f765199a5ae00348a56737320cc389eced1cd", func := "cullet/culletlaw05.StrengthWeights", spec := "strengthWeights", unfollowed := true, recurses := true, apart := false }
def StrengthWeightsSaid : Prop := strengthWeightsRow.holds Try.pinned (OpenSpec.ofChange strengthWeightsSpec)

/-- ITS FALSE NEIGHBOUR: 'it returns false'. Refute it at one input. -/
def strengthWeightsWrong : ChangeSpec := { name := "strengthWeights", fn := fun _ => fun
  | [d1, d2] => { results := [.lit (.bool false)], args := [d1, d2] }
  | _ => none }
def StrengthWeightsWrongFalsely : Prop := strengthWeightsRow.holds Try.pinned (OpenSpec.ofChange strengthWeightsWrong)

/- THE SECOND FORM. 'bulk': how many values and letters a reading holds, each counted each time it is reached (what is shared counts as often as it is met; a slice's spare places count too). A statement '..UptoSaid' is the law's where the arguments, and the package variables that the reading takes, are together of bulk at most 1048576: NARROWER than '..Said'. Prove '..Said' where nothing that the law and all that it calls make is longer than what came in: it says more and counts as full. Else prove '..UptoSaid'. A law counts once. -/
mutual
def uptoBulk {H : Type} : DataW H → Nat
  | .lit (.string bytes) => bytes.length + 1
  | .lit _ => 1
  | .nil => 1
  | .ptr d => uptoBulk d + 1
  | .slice elems spare => uptoBulkAll elems + uptoBulkAll spare + 1
  | .agg parts => uptoBulkAll parts + 1
  | .iface _ d => uptoBulk d + 1
  | .map entries => uptoBulkEntries entries + 1
  | .held _ => 1
def uptoBulkAll {H : Type} : List (DataW H) → Nat
  | [] => 0
  | d :: r => uptoBulk d + uptoBulkAll r
def uptoBulkEntries {H : Type} : List (Lit × DataW H) → Nat
  | [] => 0
  | x :: r => uptoBulkEntry x + uptoBulkEntries r
def uptoBulkEntry {H : Type} : Lit × DataW H → Nat
  | (.string bytes, d) => bytes.length + uptoBulk d + 1
  | (_, d) => uptoBulk d + 1
 end
def uptoSmall : (H : Type) → List (DataW H) → Bool := fun _ ds => decide (uptoBulkAll ds ≤ 1048576)
def OpenSpec.upto (s : _root_.Go.ChangeSpec) : _root_.Go.OpenSpec := { _root_.Go.OpenSpec.ofChange s with cond := some uptoSmall }

/-- 'culletlaw05.StrengthChecks', WHERE WHAT IT READS IS OF BULK AT MOST 1048576: true; the input reads as it did. -/
def strengthChecksUptoRow : OpenClaim := { program := "ythoofldinnfpiaa", sum := "0897b38752a9576a4e67d800f76f765199a5ae00348a56737320cc389eced1cd", func := "cullet/culletlaw05.StrengthChecks", spec := "strengthChecks", unfollowed := true, recurses := true, apart := false, narrowed := true }
def StrengthChecksUptoSaid : Prop := strengthChecksUptoRow.holds Try.pinned (OpenSpec.upto strengthChecksSpec)

/-- 'culletlaw05.StrengthLehrs', WHERE WHAT IT READS IS OF BULK AT MOST 1048576: true; the input reads as it did. -/
def strengthLehrsUptoRow : OpenClaim := { program := "ythoofldinnfpiaa", sum := "0897b38752a9576a4e67d800f76f765199a5ae00348a56737320cc389eced1cd", func := "cullet/culletlaw05.StrengthLehrs", spec := "strengthLehrs", unfollowed := true, recurses := true, apart := false, narrowed := true }
def StrengthLehrsUptoSaid : Prop := strengthLehrsUptoRow.holds Try.pinned (OpenSpec.upto strengthLehrsSpec)

/-- 'culletlaw05.StrengthMore', WHERE WHAT IT READS IS OF BULK AT MOST 1048576: true; the input reads as it did. -/
def strengthMoreUptoRow : OpenClaim := { program := "ythoofldinnfpiaa", sum := "0897b38752a9576a4e67d800f76f765199a5ae00348a56737320cc389eced1cd", func := "cullet/culletlaw05.StrengthMore", spec := "strengthMore", unfollowed := true, recurses := true, apart := false, narrowed := true }
def StrengthMoreUptoSaid : Prop := strengthMoreUptoRow.holds Try.pinned (OpenSpec.upto strengthMoreSpec)

/-- 'culletlaw05.StrengthThin', WHERE WHAT IT READS IS OF BULK AT MOST 1048576: true; the input reads as it did. -/
def strengthThinUptoRow : OpenClaim := { program := "ythoofldinnfpiaa", sum := "0897b38752a9576a4e67d800f76f765199a5ae00348a56737320cc389eced1cd", func := "cullet/culletlaw05.StrengthThin", spec := "strengthThin", unfollowed := true, recurses := true, apart := false, narrowed := true }
def StrengthThinUptoSaid : Prop := strengthThinUptoRow.holds Try.pinned (OpenSpec.upto strengthThinSpec)

/-- 'culletlaw05.StrengthBursts', WHERE WHAT IT READS IS OF BULK AT MOST 1048576: true; the input reads as it did. -/
def strengthBurstsUptoRow : OpenClaim := { program := "ythoofldinnfpiaa", sum := "0897b38752a9576a4e67d800f76f765199a5ae00348a56737320cc389eced1cd", func := "cullet/culletlaw05.StrengthBursts", spec := "strengthBursts", unfollowed := true, recurses := true, apart := false, narrowed := true }
def StrengthBurstsUptoSaid : Prop := strengthBurstsUptoRow.holds Try.pinned (OpenSpec.upto strengthBurstsSpec)

/-- 'culletlaw05.StrengthStresses', WHERE WHAT IT READS IS OF BULK AT MOST 1048576: true; the input reads as it did. -/
def strengthStressesUptoRow : OpenClaim := { program := "ythoofldinnfpiaa", sum := "0897b38752a9576a4e67d800f76f765199a5ae00348a56737320cc389eced1cd", func := "cullet/culletlaw05.StrengthStresses", spec := "strengthStresses", unfollowed := true, recurses := true, apart := false, narrowed := true }
def StrengthStressesUptoSaid : Prop := strengthStressesUptoRow.holds Try.pinned (OpenSpec.upto strengthStressesSpec)

/-- 'culletlaw05.StrengthInside', WHERE WHAT IT READS IS OF BULK AT MOST 1048576: true; the input reads as it did. -/
def strengthInsideUptoRow : OpenClaim := { program := "ythoofldinnfpiaa", sum := "0897b38752a9576a4e67d800f76f765199a5ae00348a56737320cc389eced1cd", func := "cullet/culletlaw05.StrengthInside", spec := "strengthInside", unfollowed := true, recurses := true, apart := false, narrowed := true }
def StrengthInsideUptoSaid : Prop := strengthInsideUptoRow.holds Try.pinned (OpenSpec.upto strengthInsideSpec)

/-- 'culletlaw05.StrengthPasses', WHERE WHAT IT READS IS OF BULK AT MOST 1048576: true; the input reads as it did. -/
def strengthPassesUptoRow : OpenClaim := { program := "ythoofldinnfpiaa", sum := "0897b38752a9576a4e67d800f76f765199a5ae00348a56737320cc389eced1cd", func := "cullet/culletlaw05.StrengthPasses", spec := "strengthPasses", unfollowed := true, recurses := true, apart := false, narrowed := true }
def StrengthPassesUptoSaid : Prop := strengthPassesUptoRow.holds Try.pinned (OpenSpec.upto strengthPassesSpec)

/-- 'culletlaw05.StrengthNeeds', WHERE WHAT IT READS IS OF BULK AT MOST 1048576: true; the input reads as it did. -/
def strengthNeedsUptoRow : OpenClaim := { program := "ythoofldinnfpiaa", sum := "0897b38752a9576a4e67d800f76f765199a5ae00348a56737320cc389eced1cd", func := "cullet/culletlaw05.StrengthNeeds", spec := "strengthNeeds", unfollowed := true, recurses := true, apart := false, narrowed := true }
def StrengthNeedsUptoSaid : Prop := strengthNeedsUptoRow.holds Try.pinned (OpenSpec.upto strengthNeedsSpec)

/-- 'culletlaw05.StrengthWeights', WHERE WHAT IT READS IS OF BULK AT MOST 1048576: true; the input reads as it did. -/
def strengthWeightsUptoRow : OpenClaim := { program := "ythoofldinnfpiaa", sum := "0897b38752a9576a4e67d800f76f765199a5ae00348a56737320cc389eced1cd", func := "cullet/culletlaw05.StrengthWeights", spec := "strengthWeights", unfollowed := true, recurses := true, apart := false, narrowed := true }
def StrengthWeightsUptoSaid : Prop := strengthWeightsUptoRow.holds Try.pinned (OpenSpec.upto strengthWeightsSpec)

end Rows
end Go.Proofs.Ythoofldinnfpiaa

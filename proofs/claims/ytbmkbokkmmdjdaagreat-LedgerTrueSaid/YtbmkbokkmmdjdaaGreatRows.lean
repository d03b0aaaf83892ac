/-
  No cell of these rows narrows 'for every input' (looked for: loops, veiled, ifaces, maps, wideKeys, modest, calm, conditions, laid).
  DERIVED. THE GIVEN ROWS OF THIS SEAT. 3 by the template 'for every input the law returns true; each argument reads behind the call as it read before'; 0 by the template 'total and deterministic' (their statements: YtbmkbokkmmdjdaaGreatTotals.lean).
  GIVEN WITH THE SEED: the statements are not yours to turn. If you find one false, say at which input.
  Laid BY PROGRAM, IN A SANDBOX (cutbox-rows.mjs): the forced cells as the released guide's own fill.sh prints them over the translation 9bd1e394fef4356c… (all of the seat's roots in one cut). By AI agents, Wed Nov 11 2026. No macro, syntax, notation, axiom, sorry.
-/
import Derived.Test.YtbmkbokkmmdjdaaGreatChecked
import GoSem.Claim
import GoSem.ClaimJoined
import GoSem.ClaimMapViews
import Derived.JoinedTies
import Derived.KernelRfl
namespace Go.Proofs.YtbmkbokkmmdjdaaGreat
/- THE CELL 'sum', in the pinned program and in every row, IS THE sha256 OF THE DUMP (.gsa) THAT YtbmkbokkmmdjdaaGreatProg.lean LOADS. Nothing in Lean hashes anything: it is a label: what it is worth is what the hold of that sum in a sandbox is worth. -/
noncomputable def Tryz.pinned : Pinned := { name := "ytbmkbokkmmdjdaagreat", sum := "9bd1e394fef4356c06f2be9cc13fd0bfbc36537376d16926047b34da463c944b", checked := Tryz.checked }
namespace Rows
def none {H : Type} : Left H := { results := [], args := [] }

/-- 'culletlaw09.LedgerAmounts': WHATEVER THE INPUT: true; the input reads as it did. -/
def ledgerAmountsSpec : ChangeSpec := { name := "ledgerAmounts", fn := fun _ => fun
  | [d1, d2, d3, d4] => { results := [.lit (.bool true)], args := [d1, d2, d3, d4] }
  | _ => none }
def ledgerAmountsRow : OpenClaim := { program := "ytbmkbokkmmdjdaagreat", sum := "9bd1e394fef4356c06f2be9cc13fd0bfbc36537376d16926047b34da463c944b", func := "cullet/culletlaw09.LedgerAmounts", spec := "ledgerAmounts", unfollowed := true, recurses := true, plainKeys := false, apart := false }
def LedgerAmountsSaid : Prop := ledgerAmountsRow.holds Tryz.pinned (OpenSpec.ofChange ledgerAmountsSpec)

/-- ITS FALSE NEIGHBOUR: 'it returns false'. Refute it at one input. -/
def ledgerAmountsWrong : ChangeSpec := { name := "ledgerAmounts", fn := fun _ => fun
  | [d1, d2, d3, d4] => { results := [.lit (.bool false)], args := [d1, d2, d3, d4] }
  | _ => none }
def LedgerAmountsWrongFalsely : Prop := ledgerAmountsRow.holds Tryz.pinned (OpenSpec.ofChange ledgerAmountsWrong)

/-- 'culletlaw09.LedgerCovers': WHATEVER THE INPUT: true; the input reads as it did. -/
def ledgerCoversSpec : ChangeSpec := { name := "ledgerCovers", fn := fun _ => fun
  | [d1, d2] => { results := [.lit (.bool true)], args := [d1, d2] }
  | _ => none }
def ledgerCoversRow : OpenClaim := { program := "ytbmkbokkmmdjdaagreat", sum := "9bd1e394fef4356c06f2be9cc13fd0bfbc36537376d16926047b34da463c944b", func := "cullet/culletlaw09.LedgerCovers", spec := "ledgerCovers", unfollowed := true, recurses := true, plainKeys := false, apart := false }
def LedgerCoversSaid : Prop := ledgerCoversRow.holds Tryz.pinned (OpenSpec.ofChange ledgerCoversSpec)

/-- ITS FALSE NEIGHBOUR: 'it returns false'. Refute it at one input. -/
def ledgerCoversWrong : ChangeSpec := { name := "ledgerCovers", fn := fun _ => fun
  | [d1, d2] => { results := [.lit (.bool false)], args := [d1, d2] }
  | _ => none }
def LedgerCoversWrongFalsely : Prop := ledgerCoversRow.holds Tryz.pinned (OpenSpec.ofChange ledgerCoversWrong)

/-- 'culletlaw09.LedgerTrue': WHATEVER THE INPUT: true; the input reads as it did. -/
def ledgerTrueSpec : ChangeSpec := { name := "ledgerTrue", fn := fun _ => fun
  | [d1, d2, d3, d4, d5] => { results := [.lit (.bool true)], args := [d1, d2, d3, d4, d5] }
  | _ => none }
def ledgerTrueRow : OpenClaim := { program := "ytbmkbokkmmdjdaagreat", sum := "9bd1e394fef4356c06f2be9cc13fd0bfbc36537376d16926047b34da463c944b", func := "cullet/culletlaw09.LedgerTrue", spec := "ledgerTrue", unfollowed := true, recurses := true, plainKeys := false, apart := false }
def LedgerTrueSaid : Prop := ledgerTrueRow.holds Tryz.pinned (OpenSpec.ofChange ledgerTrueSpec)

/-- ITS FALSE NEIGHBOUR: 'it returns false'. Refute it at one input. -/
def ledgerTrueWrong : ChangeSpec := { name := "ledgerTrue", fn := fun _ => fun
  | [d1, d2, d3, d4, d5] => { results := [.lit (.bool false)], args := [d1, d2, d3, d4, d5] }
  | _ => none }
def LedgerTrueWrongFalsely : Prop := ledgerTrueRow.holds Tryz.pinned (OpenSpec.ofChange ledgerTrueWrong)

/- THE SECOND FORM. 'bulk': how many values and letters a reading holds, each counted each time it is reached (what is shared counts as often as it is met; a slice's spare places count too). A statement '..UptoSaid' is the law's where the arguments, and the package variables that the reading takes, are together of bulk at most 1048576: NARROWER than '..Said'. Prove '..Said' where nothing that the law and all that it calls make is longer than what came in: it says more and counts as full. Else prove '..UptoSaid'. A law counts once. -/
mutual
def uptoBulk {H : Type} : DataW H → Nat
  | .lit (.string bytes) => bytes.length + 1
  | .lit _ => 1
  | .nil => 1
  | .ptr d => uptoBulk d + 1
  | .slice elems spare => uptoBulkAll elems + uptoBulkAll spare + 1
  | .agg parts => uptoBulkAll parts + 1
  | .iface _ d => uptoBulk d + 1
  | .map entries => uptoBulkEntries entries + 1
  | .held _ => 1
def uptoBulkAll {H : Type} : List (DataW H) → Nat
  | [] => 0
  | d :: r => uptoBulk d + uptoBulkAll r
def uptoBulkEntries {H : Type} : List (Lit × DataW H) → Nat
  | [] => 0
  | x :: r => uptoBulkEntry x + uptoBulkEntries r
def uptoBulkEntry {H : Type} : Lit × DataW H → Nat
  | (.string bytes, d) => bytes.length + uptoBulk d + 1
  | (_, d) => uptoBulk d + 1
 end
def uptoSmall : (H : Type) → List (DataW H) → Bool := fun _ ds => decide (uptoBulkAll ds ≤ 1048576)
def OpenSpec.upto (s : _root_.Go.ChangeSpec) : _root_.Go.OpenSpec := { _root_.Go.OpenSpec.ofChange s with cond := some uptoSmall }

/-- 'culletlaw09.LedgerAmounts', WHERE WHAT IT READS IS OF BULK AT MOST 1048576: true; the input reads as it did. -/
def ledgerAmountsUptoRow : OpenClaim := { program := "ytbmkbokkmmdjdaagreat", sum := "9bd1e394fef4356c06f2be9cc13fd0bfbc36537376d16926047b34da463c944b", func := "cullet/culletlaw09.LedgerAmounts", spec := "ledgerAmounts", unfollowed := true, recurses := true, plainKeys := false, apart := false, narrowed := true }
def LedgerAmountsUptoSaid : Prop := ledgerAmountsUptoRow.holds Tryz.pinned (OpenSpec.upto ledgerAmountsSpec)

/-- 'culletlaw09.LedgerCovers', WHERE WHAT IT READS IS OF BULK AT MOST 1048576: true; the input reads as it did. -/
def ledgerCoversUptoRow : OpenClaim := { program := "ytbmkbokkmmdjdaagreat", sum := "9bd1e394fef4356c06f2be9cc13fd0bfbc36537376d16926047b34da463c944b", func := "cullet/culletlaw09.LedgerCovers", spec := "ledgerCovers", unfollowed := true, recurses := true, plainKeys := false, apart := false, narrowed := true }
def LedgerCoversUptoSaid : Prop := ledgerCoversUptoRow.holds Tryz.pinned (OpenSpec.upto ledgerCoversSpec)

/-- 'culletlaw09.LedgerTrue', WHERE WHAT IT READS IS OF BULK AT MOST 1048576: true; the input reads as it did. -/
def ledgerTrueUptoRow : OpenClaim := { program := "ytbmkbokkmmdjdaagreat", sum := "9bd1e394fef4356c06f2be9cc13fd0bfbc36537376d16926047b34da463c944b", func := "cullet/culletlaw09.LedgerTrue", spec := "ledgerTrue", unfollowed := true, recurses := true, plainKeys := false, apart := false, narrowed := true }
def LedgerTrueUptoSaid : Prop := ledgerTrueUptoRow.holds Tryz.pinned (OpenSpec.upto ledgerTrueSpec)

end Rows
end Go.Proofs.YtbmkbokkmmdjdaaGreat

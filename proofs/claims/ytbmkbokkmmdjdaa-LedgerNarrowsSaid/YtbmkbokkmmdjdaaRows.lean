/-
  No cell of these rows narrows 'for every input' (looked for: loops, veiled, ifaces, maps, wideKeys, modest, calm, conditions, laid).
  DERIVED. THE GIVEN ROWS OF THIS SEAT. 4 by the template 'for every input the law returns true; each argument reads behind the call as it read before'; 0 by the template 'total and deterministic' (their statements: YtbmkbokkmmdjdaaTotals.lean).
  GIVEN WITH THE SEED: the statements are not yours to turn. If you find one false, say at which input.
  Laid BY PROGRAM, IN A SANDBOX (cutbox-rows.mjs): the forced cells as the released guide's own fill.sh prints them over the translation 0e2e6415539e9c1a… (all of the seat's roots in one cut). By AI agents, Wed Nov 11 2026. No macro, syntax, notation, axiom, sorry.
-/
import Derived.Test.YtbmkbokkmmdjdaaChecked
import GoSem.Claim
import GoSem.ClaimJoined
import GoSem.ClaimMapViews
import Derived.JoinedTies
import Derived.KernelRfl
namespace Go.Proofs.Ytbmkbokkmmdjdaa
/- THE CELL 'sum', in the pinned program and in every row, IS THE sha256 OF THE DUMP (.gsa) THAT YtbmkbokkmmdjdaaProg.lean LOADS. Nothing in Lean hashes anything: it is a label: what it is worth is what the hold of that sum in a sandbox is worth. -/
noncomputable def Try.pinned : Pinned := { name := "ytbmkbokkmmdjdaa", sum := "0e2e6415539e9c1aedbf80ae31d2923b2b3054f63b9776b2e2bb0719776be12c", checked := Try.checked }
namespace Rows
def none {H : Type} : Left H := { results := [], args := [] }

/-- 'culletlaw09.LedgerOnce': WHATEVER THE INPUT: true; the input reads as it did. -/
def ledgerOnceSpec : ChangeSpec := { name := "ledgerOnce", fn := fun _ => fun
  | [d1, d2] => { results := [.lit (.bool true)], args := [d1, d2] }
  | _ => none }
def ledgerOnceRow : OpenClaim := { program := "ytbmkbokkmmdjdaa", sum := "0e2e6415539e9c1aedbf80ae31d2923b2b3054f63b9776b2e2bb0719776be12c", func := "cullet/culletlaw09.LedgerOnce", spec := "ledgerOnce", unfollowed := true, recurses := true, plainKeys := false, apart := false }
def LedgerOnceSaid : Prop := ledgerOnceRow.holds Try.pinned (OpenSpec.ofChange ledgerOnceSpec)

/-- ITS FALSE NEIGHBOUR: 'it returns false'. Refute it at one input. -/
def ledgerOnceWrong : ChangeSpec := { name := "ledgerOnce", fn := fun _ => fun
  | [d1, d2] => { results := [.lit (.bool false)], args := [d1, d2] }
  | _ => none }
def LedgerOnceWrongFalsely : Prop := ledgerOnceRow.holds Try.pinned (OpenSpec.ofChange ledgerOnceWrong)

/-- 'culletlaw09.LedgerShares': WHATEVER THE INPUT: true; the input reads as it did. -/
def ledgerSharesSpec : ChangeSpec := { name := "ledgerShares", fn := fun _ => fun
  | [d1, d2] => { results := [.lit (.bool true)], args := [d1, d2] }
  | _ => none }
def ledgerSharesRow : OpenClaim := { program := "ytbmkbokkmmdjdaa", sum := "0e2e6415539e9c1aedbf80ae31d2923b2b3054f63b9776b2e2bb0719776be12c", func := "cullet/culletlaw09.LedgerShares", spec := "ledgerShares", unfollowed := true, recurses := true, plainKeys := false, apart := false }
def LedgerSharesSaid : Prop := ledgerSharesRow.holds Try.pinned (OpenSpec.ofChange ledgerSharesSpec)

/-- ITS FALSE NEIGHBOUR: 'it returns false'. Refute it at one input. -/
def ledgerSharesWrong : ChangeSpec := { name := "ledgerShares", fn := fun _ => fun
  | [d1, d2] => { results := [.lit (.bool false)], args := [d1, d2] }
  | _ => none }
def LedgerSharesWrongFalsely : Prop := ledgerSharesRow.holds Try.pinned (OpenSpec.ofChange ledgerSharesWrong)

/-- 'culletlaw09.LedgerNarrows': WHATEVER THE INPUT: true; the input reads as it did. -/
def ledgerNarrowsSpec : ChangeSpec := { name := "ledgerNarrows", fn := fun _ => fun
  | [d1, d2, d3, d4] => { results := [.lit (.bool true)], args := [d1, d2, d3, d4] }
  | _ => none }
def ledgerNarrowsRow : OpenClaim := { program := "ytbmkbokkmmdjdaa", sum := "0e2e6415539e9c1aedbf80ae31d2923b2b3054f63b9776b2e2bb0719776be12c", func := "cullet/culletlaw09.LedgerNarrows", spec := "ledgerNarrows", unfollowed := true, recurses := true, plainKeys := false, apart := false }
def LedgerNarrowsSaid : Prop := ledgerNarrowsRow.holds Try.pinned (OpenSpec.ofChange ledgerNarrowsSpec)

/-- ITS FALSE NEIGHBOUR: 'it returns false'. Refute it at one input. -/
def ledgerNarrowsWrong : ChangeSpec := { name := "ledgerNarrows", fn := fun _ => fun
  | [d1, d2, d3, d4] => { results := [.lit (.bool false)], args := [d1, d2, d3, d4] }
  | _ => none }
def LedgerNarrowsWrongFalsely : Prop := ledgerNarrowsRow.holds Try.pinned (OpenSpec.ofChange ledgerNarrowsWrong)

/-- 'culletlaw09.LedgerPeriods': WHATEVER THE INPUT: true; the input reads as it did. -/
def ledgerPeriodsSpec : ChangeSpec := { name := "ledgerPeriods", fn := fun _ => fun
  | [d1, d2] => { results := [.lit (.bool true)], args := [d1, d2] }
  | _ => none }
def ledgerPeriodsRow : OpenClaim := { program := "ytbmkbokkmmdjdaa", sum := "0e2e6415539e9c1aedbf80ae31d2923b2b3054f63b9776b2e2bb0719776be12c", func := "cullet/culletlaw09.LedgerPeriods", spec := "ledgerPeriods", unfollowed := true, recurses := true, plainKeys := false, apart := false }
def LedgerPeriodsSaid : Prop := ledgerPeriodsRow.holds Try.pinned (OpenSpec.ofChange ledgerPeriodsSpec)

/-- ITS FALSE NEIGHBOUR: 'it returns false'. Refute it at one input. -/
def ledgerPeriodsWrong : ChangeSpec := { name := "ledgerPeriods", fn := fun _ => fun
  | [d1, d2] => { results := [.lit (.bool false)], args := [d1, d2] }
  | _ => none }
def LedgerPeriodsWrongFalsely : Prop := ledgerPeriodsRow.holds Try.pinned (OpenSpec.ofChange ledgerPeriodsWrong)

/- THE SECOND FORM. 'bulk': how many values and letters a reading holds, each counted each time it is reached (what is shared counts as often as it is met; a slice's spare places count too). A statement '..UptoSaid' is the law's where the arguments, and the package variables that the reading takes, are together of bulk at most 1048576: NARROWER than '..Said'. Prove '..Said' where nothing that the law and all that it calls make is longer than what came in: it says more and counts as full. Else prove '..UptoSaid'. A law counts once. -/
mutual
def uptoBulk {H : Type} : DataW H → Nat
  | .lit (.string bytes) => bytes.length + 1
  | .lit _ => 1
  | .nil => 1
  | .ptr d => uptoBulk d + 1
  | .slice elems spare => uptoBulkAll elems + uptoBulkAll spare + 1
  | .agg parts => uptoBulkAll parts + 1
  | .iface _ d => uptoBulk d + 1
  | .map entries => uptoBulkEntries entries + 1
  | .held _ => 1
def uptoBulkAll {H : Type} : List (DataW H) → Nat
  | [] => 0
  | d :: r => uptoBulk d + uptoBulkAll r
def uptoBulkEntries {H : Type} : List (Lit × DataW H) → Nat
  | [] => 0
  | x :: r => uptoBulkEntry x + uptoBulkEntries r
def uptoBulkEntry {H : Type} : Lit × DataW H → Nat
  | (.string bytes, d) => bytes.length + uptoBulk d + 1
  | (_, d) => uptoBulk d + 1
 end
def uptoSmall : (H : Type) → List (DataW H) → Bool := fun _ ds => decide (uptoBulkAll ds ≤ 1048576)
def OpenSpec.upto (s : _root_.Go.ChangeSpec) : _root_.Go.OpenSpec := { _root_.Go.OpenSpec.ofChange s with cond := some uptoSmall }

/-- 'culletlaw09.LedgerOnce', WHERE WHAT IT READS IS OF BULK AT MOST 1048576: true; the input reads as it did. -/
def ledgerOnceUptoRow : OpenClaim := { program := "ytbmkbokkmmdjdaa", sum := "0e2e6415539e9c1aedbf80ae31d2923b2b3054f63b9776b2e2bb0719776be12c", func := "cullet/culletlaw09.LedgerOnce", spec := "ledgerOnce", unfollowed := true, recurses := true, plainKeys := false, apart := false, narrowed := true }
def LedgerOnceUptoSaid : Prop := ledgerOnceUptoRow.holds Try.pinned (OpenSpec.upto ledgerOnceSpec)

/-- 'culletlaw09.LedgerShares', WHERE WHAT IT READS IS OF BULK AT MOST 1048576: true; the input reads as it did. -/
def ledgerSharesUptoRow : OpenClaim := { program := "ytbmkbokkmmdjdaa", sum := "0e2e6415539e9c1aedbf80ae31d2923b2b3054f63b9776b2e2bb0719776be12c", func := "cullet/culletlaw09.LedgerShares", spec := "ledgerShares", unfollowed := true, recurses := true, plainKeys := false, apart := false, narrowed := true }
def LedgerSharesUptoSaid : Prop := ledgerSharesUptoRow.holds Try.pinned (OpenSpec.upto ledgerSharesSpec)

/-- 'culletlaw09.LedgerNarrows', WHERE WHAT IT READS IS OF BULK AT MOST 1048576: true; the input reads as it did. -/
def ledgerNarrowsUptoRow : OpenClaim := { program := "ytbmkbokkmmdjdaa", sum := "0e2e6415539e9c1aedbf80ae31d2923b2b3054f63b9776b2e2bb0719776be12c", func := "cullet/culletlaw09.LedgerNarrows", spec := "ledgerNarrows", unfollowed := true, recurses := true, plainKeys := false, apart := false, narrowed := true }
def LedgerNarrowsUptoSaid : Prop := ledgerNarrowsUptoRow.holds Try.pinned (OpenSpec.upto ledgerNarrowsSpec)

/-- 'culletlaw09.LedgerPeriods', WHERE WHAT IT READS IS OF BULK AT MOST 1048576: true; the input reads as it did. -/
def ledgerPeriodsUptoRow : OpenClaim := { program := "ytbmkbokkmmdjdaa", sum := "0e2e6415539e9c1aedbf80ae31d2923b2b3054f63b9776b2e2bb0719776be12c", func := "cullet/culletlaw09.LedgerPeriods", spec := "ledgerPeriods", unfollowed := true, recurses := true, plainKeys := false, apart := false, narrowed := true }
def LedgerPeriodsUptoSaid : Prop := ledgerPeriodsUptoRow.holds Try.pinned (OpenSpec.upto ledgerPeriodsSpec)

end Rows
end Go.Proofs.Ytbmkbokkmmdjdaa

-- cut out of a printed text by wip/assemble.py: function 17 (strength_Check)
import Derived.Test.YthoofldinnfpiaaX0
import Derived.Test.YthoofldinnfpiaaX1
import Derived.Test.YthoofldinnfpiaaX28
import Derived.Test.YthoofldinnfpiaaE
namespace Go.Proofs.Ythoofldinnfpiaa.Q
open Go.RowKit Go.Proofs.YthoofldinnfpiaaW.PrintWords Go.Proofs.YthoofldinnfpiaaW.PrintLast Go.Proofs.YthoofldinnfpiaaW.PrintMore
attribute [local go_sem] max2_int min2_int max_two min_two max_three min_three max_four min_four   -- for this text's walks alone
set_option linter.unusedVariables false
set_option linter.unusedSimpArgs false

/-! ### strength_Check: function 17 -/
def strength_Check.f (_k : Nat) (l0_0 : List (S82)) (a0_1 : Int) (a0_2 : Int) : Option (Int) := some (checkOf l0_0 a0_1 a0_2)
theorem strength_Check.mono : ∀ a0 a1 a2 k, LeO (strength_Check.f k a0 a1 a2) (strength_Check.f (k + 1) a0 a1 a2) := fun _ _ _ _ => LeO.refl _
theorem strength_Check.calls (k : Nat) (A0_0 : Option Addr) (c0_0 : Nat) (l0_0 : List (S82)) (a0_1 : Int) (a0_2 : Int) (r : Int) (w : World) (hr0_0 : Kd.C k82 w A0_0 l0_0.length l0_0) (hc0_0 : l0_0.length ≤ c0_0) (h : strength_Check.f k l0_0 a0_1 a0_2 = some r) :
    Calls Try.prog 17 #[.agg #[.slice A0_0 l0_0.length c0_0, .int .i64 a0_1, .int .i64 a0_2]] w fun e w' => e = .returned (.int .i64 r) ∧ Below w.heap.size w w' := by
  obtain rfl := Option.some.inj h
  exact Check_any A0_0 c0_0 l0_0 a0_1 a0_2 w hr0_0

end Go.Proofs.Ythoofldinnfpiaa.Q

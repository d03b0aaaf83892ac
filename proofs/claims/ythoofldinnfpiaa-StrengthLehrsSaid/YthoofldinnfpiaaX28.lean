-- printed by wip/mkprint.py out of Lean's own print of the translation
import Derived.Test.YthoofldinnfpiaaX0
namespace Go.Proofs.Ythoofldinnfpiaa.Q
open Go.RowKit Go.Proofs.YthoofldinnfpiaaW.PrintWords Go.Proofs.YthoofldinnfpiaaW.PrintLast Go.Proofs.YthoofldinnfpiaaW.PrintMore
attribute [local go_sem] max2_int min2_int max_two min_two max_three min_three max_four min_four   -- for this text's walks alone
set_option linter.unusedVariables false
set_option linter.unusedSimpArgs false

-- NOT PRINTED: function 12 (culletlaw05_StrengthWeights)

end Go.Proofs.Ythoofldinnfpiaa.Q

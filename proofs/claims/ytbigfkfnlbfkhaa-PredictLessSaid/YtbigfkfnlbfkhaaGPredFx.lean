-- Written by the session's program wip/myprint.py.
import Derived.Test.YtbigfkfnlbfkhaaGPredFx0
import Derived.Test.YtbigfkfnlbfkhaaGPredFx1
namespace Go.Proofs.Ytbigfkfnlbfkhaa.GPredF
open Go.RowKit Go.Proofs.YtbigfkfnlbfkhaaW.PrintWords Go.Proofs.YtbigfkfnlbfkhaaW.PrintLast Go.Proofs.YtbigfkfnlbfkhaaW.PrintMore
attribute [local go_sem] max2_int min2_int max_two min_two max_three min_three max_four min_four   -- for this text's walks alone
set_option linter.unusedVariables false
set_option linter.unusedSimpArgs false

end Go.Proofs.Ytbigfkfnlbfkhaa.GPredF

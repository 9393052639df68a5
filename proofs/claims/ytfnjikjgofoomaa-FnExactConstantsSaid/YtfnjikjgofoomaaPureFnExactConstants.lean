/- The plain statement of the law FnExactConstants: whatever the numbers and lists, its printed function answers true from some number of rounds on. No condition beyond the kinds' own. -/
import Derived.Test.YtfnjikjgofoomaaPx5
import Derived.Test.YtfnjikjgofoomaaEv
namespace Go.Proofs.Ytfnjikjgofoomaa.Pure
open Go.Proofs.Ytfnjikjgofoomaa.P
open Go.RowKit Go.Proofs.YtfnjikjgofoomaaW.PrintWords Go.Proofs.YtfnjikjgofoomaaW.PrintLast Go.Proofs.YtfnjikjgofoomaaW.PrintMore
set_option linter.unusedVariables false
set_option linter.unusedSimpArgs false

theorem FnExactConstants : laws_FnExactConstants.Pure := rfl

end Go.Proofs.Ytfnjikjgofoomaa.Pure

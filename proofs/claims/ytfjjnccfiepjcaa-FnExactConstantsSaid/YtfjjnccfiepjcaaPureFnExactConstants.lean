/- FnExactConstants answers true: the program's constants are the reference's. No condition. -/
import Derived.Test.YtfjjnccfiepjcaaAx46
set_option linter.unusedVariables false
set_option linter.unusedSimpArgs false
namespace Go.Proofs.Ytfjjnccfiepjcaa.Pure
open Go.RowKit Go.Proofs.Ytfjjnccfiepjcaa.A
theorem FnExactConstants : laws_FnExactConstants.Pure := rfl
end Go.Proofs.Ytfjjnccfiepjcaa.Pure

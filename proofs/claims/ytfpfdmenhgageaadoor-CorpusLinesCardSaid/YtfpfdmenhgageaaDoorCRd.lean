/- How the laws' arguments, as the rows read them, are values of the walks' kinds (written by wip/ext). -/
import Derived.Test.YtfpfdmenhgageaaDoorCx0
import Derived.Test.YtfpfdmenhgageaaDoorRd
import Derived.KernelRfl
namespace Go.Proofs.YtfpfdmenhgageaaDoor.C
open Go.RowKit Go.Proofs.YtfpfdmenhgageaaDoorRd Go.Proofs.YtfpfdmenhgageaaDoorW.PrintWords
set_option linter.unusedVariables false

end Go.Proofs.YtfpfdmenhgageaaDoor.C

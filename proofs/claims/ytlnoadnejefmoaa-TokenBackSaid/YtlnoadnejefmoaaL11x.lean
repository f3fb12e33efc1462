/- The machine's side of some functions, written by a program of this session out of the translation: each function as a plain function, and its contract. For arguments for which the plain function answers. -/
import Derived.Test.YtlnoadnejefmoaaL11x0
import Derived.Test.YtlnoadnejefmoaaL11x1
import Derived.Test.YtlnoadnejefmoaaL11x2
import Derived.Test.YtlnoadnejefmoaaL11x3
import Derived.Test.YtlnoadnejefmoaaL11x4
namespace Go.Proofs.Ytlnoadnejefmoaa.L11
open Go.RowKit Go.Proofs.YtlnoadnejefmoaaW.PrintWords Go.Proofs.YtlnoadnejefmoaaW.PrintLast Go.Proofs.YtlnoadnejefmoaaW.PrintMore
attribute [local go_sem] max2_int min2_int max_two min_two max_three min_three max_four min_four   -- for this text's walks alone
set_option linter.unusedVariables false
set_option linter.unusedSimpArgs false

end Go.Proofs.Ytlnoadnejefmoaa.L11

-- printed by a program of this session out of the translation; Lean checks it
import Derived.Test.YtdmganhmgbkliaaDoorQx0
import Derived.Test.YtdmganhmgbkliaaDoorQx1
import Derived.Test.YtdmganhmgbkliaaDoorQx2
import Derived.Test.YtdmganhmgbkliaaDoorQx3
import Derived.Test.YtdmganhmgbkliaaDoorQx4
import Derived.Test.YtdmganhmgbkliaaDoorQx5
namespace Go.Proofs.YtdmganhmgbkliaaDoor.Q
open Go.RowKit Go.Proofs.YtdmganhmgbkliaaDoorW.PrintWords Go.Proofs.YtdmganhmgbkliaaDoorW.PrintLast Go.Proofs.YtdmganhmgbkliaaDoorW.PrintMore
attribute [local go_sem] max2_int min2_int max_two min_two max_three min_three max_four min_four   -- for this text's walks alone
set_option linter.unusedVariables false
set_option linter.unusedSimpArgs false

end Go.Proofs.YtdmganhmgbkliaaDoor.Q

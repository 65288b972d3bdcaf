import Derived.Test.YtondmmoabmhpfaaDoorMV2
import Derived.Test.YtondmmoabmhpfaaDoorMG6
import Derived.Test.YtondmmoabmhpfaaDoorMQ10
import Derived.Outline
set_option linter.unusedVariables false
set_option linter.unusedSimpArgs false
namespace Go.Proofs.YtondmmoabmhpfaaDoor.Q
open Go.RowKit Go.Proofs.YtondmmoabmhpfaaDoorW.PrintWords Go.Proofs.YtondmmoabmhpfaaDoorW.PrintLast Go.Proofs.YtondmmoabmhpfaaDoorW.PrintMore
end Go.Proofs.YtondmmoabmhpfaaDoor.Q

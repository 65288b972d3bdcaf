import Derived.Test.YtondmmoabmhpfaaDoorMP8
import Derived.Test.YtondmmoabmhpfaaDoorMQ6
import Derived.Test.YtondmmoabmhpfaaDoorMQ4
set_option linter.unusedVariables false
set_option linter.unusedSimpArgs false
namespace Go.Proofs.YtondmmoabmhpfaaDoor.Q
open Go.RowKit Go.Proofs.YtondmmoabmhpfaaDoorW.PrintWords Go.Proofs.YtondmmoabmhpfaaDoorW.PrintLast Go.Proofs.YtondmmoabmhpfaaDoorW.PrintMore
end Go.Proofs.YtondmmoabmhpfaaDoor.Q

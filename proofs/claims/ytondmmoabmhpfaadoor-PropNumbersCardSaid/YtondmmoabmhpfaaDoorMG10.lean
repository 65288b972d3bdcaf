import Derived.Test.YtondmmoabmhpfaaDoorMG8
import Derived.Test.YtondmmoabmhpfaaDoorMQ2
import Derived.Test.YtondmmoabmhpfaaDoorMQ10
import Derived.Outline
import Derived.Deep.DeepMust
import Derived.Deep.RegionHeld3
import Derived.RegionTactic
import Derived.BigRegion
import Derived.ChangeAlike
import Derived.Test.YtondmmoabmhpfaaDoorMG9
set_option linter.unusedVariables false
set_option linter.unusedSimpArgs false
namespace Go.Proofs.YtondmmoabmhpfaaDoor.Q
open Go.RowKit Go.Proofs.YtondmmoabmhpfaaDoorW.PrintWords Go.Proofs.YtondmmoabmhpfaaDoorW.PrintLast Go.Proofs.YtondmmoabmhpfaaDoorW.PrintMore
end Go.Proofs.YtondmmoabmhpfaaDoor.Q

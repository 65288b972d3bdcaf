import Derived.Test.YtdnmliidmnfijaaDoorKStub
import Derived.Test.YtdnmliidmnfijaaDoorKDvVar
import Derived.Outline
namespace Go.Proofs.YtdnmliidmnfijaaDoor.Q
open Go.RowKit Go.Proofs.YtdnmliidmnfijaaDoorW.PrintWords Go.Proofs.YtdnmliidmnfijaaDoorW.PrintLast Go.Proofs.YtdnmliidmnfijaaDoorW.PrintMore
theorem and127 (x : Int) (h0 : 0 ≤ x) (h1 : x < 256) : Go.bits .and .u8 x 127 = x % 128 := bits_mask .u8 8 (by decide) wraps_u8 7 (by decide) x h0 (by omega)
end Go.Proofs.YtdnmliidmnfijaaDoor.Q

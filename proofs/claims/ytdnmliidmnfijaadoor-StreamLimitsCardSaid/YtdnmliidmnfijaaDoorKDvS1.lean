import Derived.Test.YtdnmliidmnfijaaDoorKR
import Derived.Test.YtdnmliidmnfijaaDoorKDvX1
import Derived.Outline
import Derived.Deep.DeepMust
namespace Go.Proofs.YtdnmliidmnfijaaDoor.Q
open Go.RowKit Go.Proofs.YtdnmliidmnfijaaDoorW.PrintWords Go.Proofs.YtdnmliidmnfijaaDoorW.PrintLast Go.Proofs.YtdnmliidmnfijaaDoorW.PrintMore
theorem qinfo5 : (Tryd.prog.info? 5).map (fun i => (i.zero, i.size, i.bytes)) = some (some (.int .u8 0), 1, 1) := by kernel_rfl
def bin (s : ByteArray) : List Int := [((s.size : Int) / 256) % 256, (s.size : Int) % 256] ++ bytesOf s
def dovecoteref1_Check.f (a0 : ByteArray) : Option Int := if a0.size ≤ 140737488351232 then some (Dv.chk a0) else none
def dovecoteref1_Bin.f (a0 : ByteArray) : Option (List Int) := if a0.size ≤ 140737488351232 then some (bin a0) else none
end Go.Proofs.YtdnmliidmnfijaaDoor.Q

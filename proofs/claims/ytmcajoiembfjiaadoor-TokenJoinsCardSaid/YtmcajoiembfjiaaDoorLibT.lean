import Derived.Test.YtmcajoiembfjiaaDoorProg
import Derived.Test.YtmcajoiembfjiaaDoorSxM
namespace Go.Proofs.YtmcajoiembfjiaaDoor
open Go.Sx
theorem mixed : Tryd.prog.follows .mixedOrders = true := by kernel_rfl
end Go.Proofs.YtmcajoiembfjiaaDoor

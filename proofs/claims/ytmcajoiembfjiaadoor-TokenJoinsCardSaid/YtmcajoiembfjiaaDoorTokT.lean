import Derived.Test.YtmcajoiembfjiaaDoorProg
import Derived.Test.YtmcajoiembfjiaaDoorSxM
namespace Go.Proofs.YtmcajoiembfjiaaDoor
open Go.Sx
theorem mixed : Tryd.prog.follows .mixedOrders = true := by kernel_rfl
theorem fa42_0 : faB Tryd.prog 42 0 0 = true := by kernel_rfl
theorem fa42_1 : faB Tryd.prog 42 1 1 = true := by kernel_rfl
theorem sl56 : slB Tryd.prog 56 1 = true := by kernel_rfl
theorem st9 : strB Tryd.prog 9 = true := by kernel_rfl
theorem z3 : szB Tryd.prog 3 1 false = true := by kernel_rfl
theorem z9 : szB Tryd.prog 9 1 false = true := by kernel_rfl
end Go.Proofs.YtmcajoiembfjiaaDoor

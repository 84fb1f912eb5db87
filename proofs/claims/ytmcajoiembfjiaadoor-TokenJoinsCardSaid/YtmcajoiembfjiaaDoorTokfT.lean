import Derived.Test.YtmcajoiembfjiaaDoorProg
import Derived.Test.YtmcajoiembfjiaaDoorSxM
namespace Go.Proofs.YtmcajoiembfjiaaDoor
open Go.Sx
theorem mixed : Tryd.prog.follows .mixedOrders = true := by kernel_rfl
theorem sl56 : slB Tryd.prog 56 1 = true := by kernel_rfl
theorem slt56 : slT Tryd.prog 56 9 1 16 (str []) := ⟨by kernel_rfl, by kernel_rfl, by kernel_rfl⟩
theorem st9 : strB Tryd.prog 9 = true := by kernel_rfl
theorem z9 : szB Tryd.prog 9 1 false = true := by kernel_rfl
end Go.Proofs.YtmcajoiembfjiaaDoor

import Derived.Test.YtmcajoiembfjiaaDoorProg
import Derived.Test.YtmcajoiembfjiaaDoorSxM
namespace Go.Proofs.YtmcajoiembfjiaaDoor
open Go.Sx
theorem mixed : Tryd.prog.follows .mixedOrders = true := by kernel_rfl
theorem ar53 : arB Tryd.prog 53 3 1 false = true := by kernel_rfl
theorem bt35 : buildTab Tryd.prog 35 = some ([(0, 1), (1, 1), (2, 1)], [(.int .u8 0), (str []), (.int .i64 0)]) := by kernel_rfl
theorem fa35_0 : faB Tryd.prog 35 0 0 = true := by kernel_rfl
theorem fa35_1 : faB Tryd.prog 35 1 1 = true := by kernel_rfl
theorem fa35_2 : faB Tryd.prog 35 2 2 = true := by kernel_rfl
theorem fa42_0 : faB Tryd.prog 42 0 0 = true := by kernel_rfl
theorem fa42_1 : faB Tryd.prog 42 1 1 = true := by kernel_rfl
theorem st9 : strB Tryd.prog 9 = true := by kernel_rfl
theorem z3 : szB Tryd.prog 3 1 false = true := by kernel_rfl
theorem z35 : szB Tryd.prog 35 3 true = true := by kernel_rfl
theorem z40 : szB Tryd.prog 40 1 false = true := by kernel_rfl
theorem z5 : szB Tryd.prog 5 1 false = true := by kernel_rfl
theorem z53 : szB Tryd.prog 53 3 true = true := by kernel_rfl
theorem z9 : szB Tryd.prog 9 1 false = true := by kernel_rfl
theorem zr35 : zeroB Tryd.prog 35 (.agg #[(.int .u8 0), (str []), (.int .i64 0)]) := by unfold zeroB; kernel_rfl
theorem zr53 : zeroB Tryd.prog 53 (.agg #[.nilFunc, .nilFunc, .nilFunc]) := by unfold zeroB; kernel_rfl
end Go.Proofs.YtmcajoiembfjiaaDoor

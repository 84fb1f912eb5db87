import Derived.Test.YtmcajoiembfjiaaDoorProg
import Derived.Test.YtmcajoiembfjiaaDoorSxM
namespace Go.Proofs.YtmcajoiembfjiaaDoor
open Go.Sx
theorem mixed : Tryd.prog.follows .mixedOrders = true := by kernel_rfl
theorem fl26 : flatS Tryd.prog 26 [(24, 0), (3, 1)] := ⟨by kernel_rfl, by kernel_rfl, by kernel_rfl, by kernel_rfl⟩
theorem st9 : strB Tryd.prog 9 = true := by kernel_rfl
theorem un24 : Tryd.prog.underlying 24 = some (.int .i64) := by kernel_rfl
theorem un3 : Tryd.prog.underlying 3 = some (.int .i64) := by kernel_rfl
theorem z24 : szB Tryd.prog 24 1 false = true := by kernel_rfl
theorem z26 : szB Tryd.prog 26 2 true = true := by kernel_rfl
theorem z3 : szB Tryd.prog 3 1 false = true := by kernel_rfl
theorem zr26 : zeroB Tryd.prog 26 (.agg #[(.int .i64 0), (.int .i64 0)]) := by unfold zeroB; kernel_rfl
end Go.Proofs.YtmcajoiembfjiaaDoor

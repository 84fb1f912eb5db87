import Derived.Test.YtmcajoiembfjiaaDoorProg
import Derived.Test.YtmcajoiembfjiaaDoorSxM
namespace Go.Proofs.YtmcajoiembfjiaaDoor
open Go.Sx
theorem mixed : Tryd.prog.follows .mixedOrders = true := by kernel_rfl
theorem bt26 : buildTab Tryd.prog 26 = some ([(0, 1), (1, 1)], [(.int .i64 0), (.int .i64 0)]) := by kernel_rfl
theorem fa26_0 : faB Tryd.prog 26 0 0 = true := by kernel_rfl
theorem fa26_1 : faB Tryd.prog 26 1 1 = true := by kernel_rfl
theorem fa35_2 : faB Tryd.prog 35 2 2 = true := by kernel_rfl
theorem fl26 : flatS Tryd.prog 26 [(24, 0), (3, 1)] := ⟨by kernel_rfl, by kernel_rfl, by kernel_rfl, by kernel_rfl⟩
theorem fl35 : flatS Tryd.prog 35 [(5, 0), (9, 1), (3, 2)] := ⟨by kernel_rfl, by kernel_rfl, by kernel_rfl, by kernel_rfl⟩
theorem sl23 : slB Tryd.prog 23 3 = true := by kernel_rfl
theorem st9 : strB Tryd.prog 9 = true := by kernel_rfl
theorem un24 : Tryd.prog.underlying 24 = some (.int .i64) := by kernel_rfl
theorem un3 : Tryd.prog.underlying 3 = some (.int .i64) := by kernel_rfl
theorem un5 : Tryd.prog.underlying 5 = some (.int .u8) := by kernel_rfl
theorem un9 : Tryd.prog.underlying 9 = some .string := by kernel_rfl
theorem z24 : szB Tryd.prog 24 1 false = true := by kernel_rfl
theorem z26 : szB Tryd.prog 26 2 true = true := by kernel_rfl
theorem z3 : szB Tryd.prog 3 1 false = true := by kernel_rfl
theorem z35 : szB Tryd.prog 35 3 true = true := by kernel_rfl
theorem z5 : szB Tryd.prog 5 1 false = true := by kernel_rfl
theorem z9 : szB Tryd.prog 9 1 false = true := by kernel_rfl
theorem zr26 : zeroB Tryd.prog 26 (.agg #[(.int .i64 0), (.int .i64 0)]) := by unfold zeroB; kernel_rfl
theorem zr35 : zeroB Tryd.prog 35 (.agg #[(.int .u8 0), (str []), (.int .i64 0)]) := by unfold zeroB; kernel_rfl
end Go.Proofs.YtmcajoiembfjiaaDoor

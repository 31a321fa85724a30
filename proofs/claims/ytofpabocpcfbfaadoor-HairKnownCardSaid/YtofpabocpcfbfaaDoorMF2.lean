/- Closed facts on the types of the program. Conditions: none. -/
import Derived.Test.YtofpabocpcfbfaaDoorMF
import Derived.Test.YtofpabocpcfbfaaDoorMD3
set_option linter.unusedSimpArgs false
set_option linter.unusedVariables false

/- Closed facts on the types of the program. -/
namespace Go.Proofs.YtofpabocpcfbfaaDoor
open Go Go.Proofs K
theorem ar_78 : arB Tryd.prog 78 5 1 = true := by kernel_rfl
theorem fs_25_0 : fsB1 Tryd.prog 25 0 0 = true := by kernel_rfl
theorem fs_25_1 : fsB1 Tryd.prog 25 1 1 = true := by kernel_rfl
theorem sl_76 : slB Tryd.prog 76 5 = true := by kernel_rfl
theorem sl_79 : slB Tryd.prog 79 5 = true := by kernel_rfl
theorem sz_78 : szB Tryd.prog 78 5 = true := by kernel_rfl
theorem us_76 : Tryd.prog.underlying 76 = some (.slice 25) := by kernel_rfl
theorem us_79 : Tryd.prog.underlying 79 = some (.slice 78) := by kernel_rfl
theorem z_78 : zeroIs Tryd.prog 78 (.agg #[.int .i64 0, .int .i64 0, .int .i64 0, .int .i64 0, .int .i64 0]) := by unfold zeroIs; kernel_rfl
end Go.Proofs.YtofpabocpcfbfaaDoor

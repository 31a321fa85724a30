/- Closed facts on the types of the program. Conditions: none. -/
import Derived.Test.YtofpabocpcfbfaaDoorMD
import Derived.Test.YtofpabocpcfbfaaDoorProg
set_option linter.unusedSimpArgs false
set_option linter.unusedVariables false

/- Closed facts on the types of the program. -/
namespace Go.Proofs.YtofpabocpcfbfaaDoor
open Go Go.Proofs K
theorem mixed : Tryd.prog.follows .mixedOrders = true := by kernel_rfl
theorem ag_104 : agB Tryd.prog 104 5 = true := by kernel_rfl
theorem ag_109 : agB Tryd.prog 109 1 = true := by kernel_rfl
theorem ag_122 : agB Tryd.prog 122 2 = true := by kernel_rfl
theorem ag_25 : agB Tryd.prog 25 5 = true := by kernel_rfl
theorem ag_35 : agB Tryd.prog 35 2 = true := by kernel_rfl
theorem ag_42 : agB Tryd.prog 42 4 = true := by kernel_rfl
theorem ag_65 : agB Tryd.prog 65 3 = true := by kernel_rfl
theorem ag_99 : agB Tryd.prog 99 6 = true := by kernel_rfl
theorem ar_104 : arB Tryd.prog 104 5 1 = true := by kernel_rfl
theorem ar_164 : arB Tryd.prog 164 2 1 = true := by kernel_rfl
theorem ar_58 : arB Tryd.prog 58 3 1 = true := by kernel_rfl
theorem ar_61 : arB Tryd.prog 61 2 1 = true := by kernel_rfl
theorem by_3 : byB Tryd.prog 3 8 = true := by kernel_rfl
theorem by_42 : byB Tryd.prog 42 32 = true := by kernel_rfl
theorem by_65 : byB Tryd.prog 65 24 = true := by kernel_rfl
theorem eg_104 : Tryd.prog.eqGuardType Tryd.prog.depth 104 = false := by kernel_rfl
theorem eg_122 : Tryd.prog.eqGuardType Tryd.prog.depth 122 = false := by kernel_rfl
theorem eg_35 : Tryd.prog.eqGuardType Tryd.prog.depth 35 = false := by kernel_rfl
theorem fl_109_0 : flB Tryd.prog 109 0 0 = true := by kernel_rfl
theorem fl_122_0 : flB Tryd.prog 122 0 0 = true := by kernel_rfl
theorem fl_122_1 : flB Tryd.prog 122 1 1 = true := by kernel_rfl
theorem fl_165_0 : flB Tryd.prog 165 0 0 = true := by kernel_rfl
theorem fl_165_1 : flB Tryd.prog 165 1 1 = true := by kernel_rfl
theorem fl_25_0 : flB Tryd.prog 25 0 0 = true := by kernel_rfl
theorem fl_25_1 : flB Tryd.prog 25 1 1 = true := by kernel_rfl
theorem fl_25_2 : flB Tryd.prog 25 2 2 = true := by kernel_rfl
theorem fl_25_3 : flB Tryd.prog 25 3 3 = true := by kernel_rfl
theorem fl_25_4 : flB Tryd.prog 25 4 4 = true := by kernel_rfl
theorem fl_35_0 : flB Tryd.prog 35 0 0 = true := by kernel_rfl
theorem fl_35_1 : flB Tryd.prog 35 1 1 = true := by kernel_rfl
theorem fl_42_0 : flB Tryd.prog 42 0 0 = true := by kernel_rfl
theorem fl_42_1 : flB Tryd.prog 42 1 2 = true := by kernel_rfl
theorem fl_65_0 : flB Tryd.prog 65 0 0 = true := by kernel_rfl
theorem fl_65_1 : flB Tryd.prog 65 1 1 = true := by kernel_rfl
theorem fl_65_2 : flB Tryd.prog 65 2 2 = true := by kernel_rfl
theorem fl_99_0 : flB Tryd.prog 99 0 0 = true := by kernel_rfl
theorem fl_99_1 : flB Tryd.prog 99 1 5 = true := by kernel_rfl
theorem ia_104 : iaB Tryd.prog 104 5 = true := by kernel_rfl
theorem ik_122 : ikB Tryd.prog 122 2 = true := by kernel_rfl
theorem ik_35 : ikB Tryd.prog 35 2 = true := by kernel_rfl
theorem mp_97 : mapB Tryd.prog 97 122 35 = true := by kernel_rfl
theorem pl_109 : plB Tryd.prog 109 [(0, 1)] = true := by kernel_rfl
theorem pl_122 : plB Tryd.prog 122 [(0, 1), (1, 1)] = true := by kernel_rfl
theorem pl_25 : plB Tryd.prog 25 [(0, 1), (1, 1), (2, 1), (3, 1), (4, 1)] = true := by kernel_rfl
theorem pl_35 : plB Tryd.prog 35 [(0, 1), (1, 1)] = true := by kernel_rfl
theorem pl_42 : plB Tryd.prog 42 [(0, 2), (2, 2)] = true := by kernel_rfl
theorem pl_65 : plB Tryd.prog 65 [(0, 1), (1, 1), (2, 1)] = true := by kernel_rfl
theorem pl_99 : plB Tryd.prog 99 [(0, 5), (5, 1)] = true := by kernel_rfl
theorem sc_107 : scB Tryd.prog 107 = true := by kernel_rfl
theorem sc_120 : scB Tryd.prog 120 = true := by kernel_rfl
theorem sc_163 : scB Tryd.prog 163 = true := by kernel_rfl
theorem sc_166 : scB Tryd.prog 166 = true := by kernel_rfl
theorem sc_22 : scB Tryd.prog 22 = true := by kernel_rfl
theorem sc_23 : scB Tryd.prog 23 = true := by kernel_rfl
theorem sc_26 : scB Tryd.prog 26 = true := by kernel_rfl
theorem sc_3 : scB Tryd.prog 3 = true := by kernel_rfl
theorem sc_4 : scB Tryd.prog 4 = true := by kernel_rfl
theorem sc_56 : scB Tryd.prog 56 = true := by kernel_rfl
theorem sc_97 : scB Tryd.prog 97 = true := by kernel_rfl
theorem sl_22 : slB Tryd.prog 22 4 = true := by kernel_rfl
theorem sl_23 : slB Tryd.prog 23 3 = true := by kernel_rfl
theorem sl_26 : slB Tryd.prog 26 1 = true := by kernel_rfl
theorem sl_67 : slB Tryd.prog 67 2 = true := by kernel_rfl
theorem sz_104 : szB Tryd.prog 104 5 = true := by kernel_rfl
theorem sz_109 : szB Tryd.prog 109 1 = true := by kernel_rfl
theorem sz_120 : szB Tryd.prog 120 1 = true := by kernel_rfl
theorem sz_122 : szB Tryd.prog 122 2 = true := by kernel_rfl
theorem sz_166 : szB Tryd.prog 166 1 = true := by kernel_rfl
theorem sz_22 : szB Tryd.prog 22 1 = true := by kernel_rfl
theorem sz_23 : szB Tryd.prog 23 1 = true := by kernel_rfl
theorem sz_25 : szB Tryd.prog 25 5 = true := by kernel_rfl
theorem sz_26 : szB Tryd.prog 26 1 = true := by kernel_rfl
theorem sz_3 : szB Tryd.prog 3 1 = true := by kernel_rfl
theorem sz_35 : szB Tryd.prog 35 2 = true := by kernel_rfl
theorem sz_4 : szB Tryd.prog 4 1 = true := by kernel_rfl
theorem sz_42 : szB Tryd.prog 42 4 = true := by kernel_rfl
theorem sz_61 : szB Tryd.prog 61 2 = true := by kernel_rfl
theorem sz_65 : szB Tryd.prog 65 3 = true := by kernel_rfl
theorem sz_99 : szB Tryd.prog 99 6 = true := by kernel_rfl
theorem u_4 : Tryd.prog.underlying 4 = some .bool := by kernel_rfl
theorem us_22 : Tryd.prog.underlying 22 = some (.slice 42) := by kernel_rfl
theorem us_23 : Tryd.prog.underlying 23 = some (.slice 65) := by kernel_rfl
theorem us_26 : Tryd.prog.underlying 26 = some (.slice 3) := by kernel_rfl
theorem us_67 : Tryd.prog.underlying 67 = some (.slice 61) := by kernel_rfl
theorem z_104 : zeroIs Tryd.prog 104 (.agg #[.int .i64 0, .int .i64 0, .int .i64 0, .int .i64 0, .int .i64 0]) := by unfold zeroIs; kernel_rfl
theorem z_109 : zeroIs Tryd.prog 109 (.agg #[.nilFunc]) := by unfold zeroIs; kernel_rfl
theorem z_120 : zeroIs Tryd.prog 120 (.nilFunc) := by unfold zeroIs; kernel_rfl
theorem z_122 : zeroIs Tryd.prog 122 (.agg #[.int .i64 0, .int .i64 0]) := by unfold zeroIs; kernel_rfl
theorem z_166 : zeroIs Tryd.prog 166 (.nilFunc) := by unfold zeroIs; kernel_rfl
theorem z_25 : zeroIs Tryd.prog 25 (.agg #[.slice none 0 0, .slice none 0 0, .int .i64 0, .int .i64 0, .int .i64 0]) := by unfold zeroIs; kernel_rfl
theorem z_26 : zeroIs Tryd.prog 26 (.slice none 0 0) := by unfold zeroIs; kernel_rfl
theorem z_3 : zeroIs Tryd.prog 3 (.int .i64 0) := by unfold zeroIs; kernel_rfl
theorem z_35 : zeroIs Tryd.prog 35 (.agg #[.int .i64 0, .int .i64 0]) := by unfold zeroIs; kernel_rfl
theorem z_4 : zeroIs Tryd.prog 4 (.bool false) := by unfold zeroIs; kernel_rfl
theorem z_42 : zeroIs Tryd.prog 42 (.agg #[.int .i64 0, .int .i64 0, .int .i64 0, .int .i64 0]) := by unfold zeroIs; kernel_rfl
theorem z_61 : zeroIs Tryd.prog 61 (.agg #[.int .i64 0, .int .i64 0]) := by unfold zeroIs; kernel_rfl
theorem z_65 : zeroIs Tryd.prog 65 (.agg #[.int .i64 0, .int .i64 0, .int .i64 0]) := by unfold zeroIs; kernel_rfl
theorem z_99 : zeroIs Tryd.prog 99 (.agg #[.slice none 0 0, .slice none 0 0, .int .i64 0, .int .i64 0, .int .i64 0, .map none]) := by unfold zeroIs; kernel_rfl
end Go.Proofs.YtofpabocpcfbfaaDoor

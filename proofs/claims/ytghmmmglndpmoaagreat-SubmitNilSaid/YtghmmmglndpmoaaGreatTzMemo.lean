/- The small set-up is right: one closed run, as a contract. -/
import Derived.Test.YtghmmmglndpmoaaGreatTzShapes
import Derived.Test.YtghmmmglndpmoaaGreatTzTabSub
import Derived.Test.YtghmmmglndpmoaaGreatDfwMemo
namespace Go.Abs
open Go.Proofs
def smallD : D := .agg [.c (.frz false [[.lit (.int .i64 4), .lit (.int .i64 8), .lit (.int .i64 0), .lit (.int .i64 1)], [.lit (.int .i64 8), .lit (.int .i64 8), .lit (.int .i64 1), .lit (.int .i64 0)]]), .c (.frz false [[.frz false [[.lit (.int .i64 0)], [.lit (.int .i64 1)]]], [.frz false [[.lit (.int .i64 1)]]]]), .c (.frz false [[.lit (.int .i64 0), .frz false [], .lit (.int .i64 8), .lit (.int .i64 4), .lit (.int .i64 3), .lit (.int .i64 1)], [.lit (.int .i64 1), .frz false [[.lit (.int .i64 0)], [.lit (.int .i64 1)]], .lit (.int .i64 4), .lit (.int .i64 2), .lit (.int .i64 2), .lit (.int .i64 5)]]), .c (.lit (.int .i64 3)), .c (.lit (.int .i64 1)), .c (.lit (.int .i64 2)), .c (.lit (.int .i64 10)), .c (.lit (.int .i64 3)), .c (.lit (.int .i64 4)), .c (.lit (.int .i64 1)), .c (.lit (.int .i64 12)), .c (.lit (.int .i64 100)), .c (.lit (.int .i64 50)), .c (.lit (.int .i64 5)), .c (.lit (.int .i64 4)), .c (.lit (.int .i64 3)), .c (.lit (.int .i64 6)), .c (.lit (.int .i64 4))]
theorem mixed0 : Tryz.prog.follows .mixedOrders = true := by kernel_rfl
theorem mach0 : OrcOk Tryz.prog (evF Tryz.prog (tblL tb keepL) prim0 2000 40) := evF_ok mixed0 (tblL_ok tb_ok) prim0_ok 2000 40
set_option maxRecDepth 100000 in
theorem runRight : evF Tryz.prog (tblL tb keepL) prim0 2000 40 64 [smallD] [] = some (.c (.lit (.bool true)), [], []) := by kernel_rfl
def prim1 : Orc := orE (callOrc [(64, row1 [smallD] (.c (.lit (.bool true))))]) prim0
theorem prim1_ok : OrcOk Tryz.prog prim1 := orE_ok (callOrc_ok (SpecsOk.cons (row1_ok (pure_of_run mach0 runRight)) SpecsOk.nil)) prim0_ok
set_option maxRecDepth 100000 in
theorem runAwake : evF Tryz.prog (tblL tb keepL) prim1 2000 40 5 [] [] = some (.c (.lit (.bool true)), [], []) := by kernel_rfl
theorem mach1 : OrcOk Tryz.prog (evF Tryz.prog (tblL tb keepL) prim1 2000 40) := evF_ok mixed0 (tblL_ok tb_ok) prim1_ok 2000 40
def prim2 : Orc := orE (callOrc [(5, row1 [] (.c (.lit (.bool true))))]) prim1
theorem prim2_ok : OrcOk Tryz.prog prim2 := orE_ok (callOrc_ok (SpecsOk.cons (row1_ok (pure_of_run mach1 runAwake)) SpecsOk.nil)) prim1_ok
end Go.Abs

import Derived.Test.YtghmmmglndpmoaaGreatTzPrim
import Derived.KernelRfl
namespace Go.Abs
open Go.Proofs
def keepL : List Nat := [19, 25, 30, 53, 55, 56, 57, 63, 65, 66, 67, 76, 88, 93, 102, 103, 104, 105, 106, 110, 111, 112, 128, 132, 133, 134, 136, 143, 145, 161, 195, 196]
theorem doShape : shapesOf Tryz.prog 20 43 = some [.int .i64, .int .i64, .int .i64, .int .i64, .int .i64, .int .i64, .int .i64, .int .i64, .int .i64, .int .i64, .sl [.int .i64, .bool], .int .i64, .bool, .bool, .int .i64, .int .i64, .int .i64, .int .i64, .int .i64, .int .i64, .bool, .sl [.int .i64, .int .i64], .int .i64, .int .i64, .int .i64, .sl [.int .i64]] := by kernel_rfl
theorem callShape : shapesOf Tryz.prog 20 28 = some [.int .i64, .int .i64, .int .i64, .int .i64, .int .i64, .int .i64, .int .i64, .int .i64, .int .i64, .int .i64, .int .i64, .int .i64, .int .i64, .sl [.int .i64, .bool], .int .i64, .int .i64, .int .i64, .int .i64] := by kernel_rfl
end Go.Abs

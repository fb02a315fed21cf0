import Derived.Test.YtghmmmglndpmoaaGreatTzShapes
namespace Go.Abs
open Go.Proofs
set_option maxRecDepth 100000 in
theorem runStoreNil (x0 : Int) (x1 : Int) (x2 : Int) (x3 : Int) (x4 : Int) (x5 : Int) (x6 : Int) (x7 : Int) (x8 : Int) (x9 : Int) (x10 : List (List C)) (x11 : Int) (x12 : Bool) (x13 : Bool) (x14 : Int) (x15 : Int) (x16 : Int) (x17 : Int) (x18 : Int) (x19 : Int) (x20 : Bool) (x21 : List (List C)) (x22 : Int) (x23 : Int) (x24 : Int) (x25 : List (List C)) :
    evF Tryz.prog (tblOf Tryz.prog keepL) prim0 2000 40 4 [.agg [.c (.lit (.int .i64 x0)), .c (.lit (.int .i64 x1)), .c (.lit (.int .i64 x2)), .c (.lit (.int .i64 x3)), .c (.lit (.int .i64 x4)), .c (.lit (.int .i64 x5)), .c (.lit (.int .i64 x6)), .c (.lit (.int .i64 x7)), .c (.lit (.int .i64 x8)), .c (.lit (.int .i64 x9)), .c (.frz false x10), .c (.lit (.int .i64 x11)), .c (.lit (.bool x12)), .c (.lit (.bool x13)), .c (.lit (.int .i64 x14)), .c (.lit (.int .i64 x15)), .c (.lit (.int .i64 x16)), .c (.lit (.int .i64 x17)), .c (.lit (.int .i64 x18)), .c (.lit (.int .i64 x19)), .c (.lit (.bool x20)), .c (.frz false x21), .c (.lit (.int .i64 x22)), .c (.lit (.int .i64 x23)), .c (.lit (.int .i64 x24)), .c (.frz false x25)]] [] = some (.c (.lit (.bool true)), [], []) := by kernel_rfl
end Go.Abs

/- The code of the functions that the law reaches, for the machine, and that it is the program's own. -/
import Derived.Test.YtghmmmglndpmoaaGreatDfwTb
import Derived.Test.YtghmmmglndpmoaaGreatProg
import Derived.KernelRfl
namespace Go.Abs
open Go.Proofs
set_option maxRecDepth 100000
/- drayage/drayagelaw24.SubmitNil -/
def A3 : AFunc := ⟨1, 23, [(2, none)], .seq (.reg [⟨some 1, .box (.t 0), none⟩,
  ⟨some 2, .mov (.k (.c (.lit (.bool false)))), none⟩])
 (.seq (.seq (.reg [⟨some 3, .call (.k (.c (.fn (.func 5) [] []))) [], none⟩,
  ⟨some 4, .gen (.unOp .not 4 (.tmp 3)) 4, none⟩])
 (.cond (.t 4) (.seq (.reg [⟨some 2, .mov (.k (.c (.lit (.bool false)))), none⟩])
 (.ret)) (.skip)))
 (.seq (.drw [⟨some 5, .fld 0 (.t 1), none⟩,
  ⟨some 6, .load none (.t 5), none⟩,
  ⟨some 7, .fld 1 (.t 1), none⟩,
  ⟨some 8, .load (some 17) (.t 7), none⟩,
  ⟨some 9, .call (.k (.c (.fn (.func 6) [] []))) [(.k (.c (.lit (.pointer none)))), (.t 6), (.t 8)], none⟩,
  ⟨some 10, .gen (.binOp .eql 30 (.tmp 9) (.const (.int .i64 1)) 30) 4, none⟩,
  ⟨some 11, .mov (.t 10), none⟩,
  ⟨some 12, .fld 0 (.t 1), some (11, true)⟩,
  ⟨some 13, .load none (.t 12), some (11, true)⟩,
  ⟨some 14, .fld 1 (.t 1), some (11, true)⟩,
  ⟨some 15, .load (some 17) (.t 14), some (11, true)⟩,
  ⟨some 16, .call (.k (.c (.fn (.func 8) [] []))) [(.k (.c (.lit (.pointer none)))), (.t 13), (.t 15)], some (11, true)⟩,
  ⟨some 17, .fld 1 (.t 1), some (11, true)⟩,
  ⟨some 18, .fld 1 (.t 17), some (11, true)⟩,
  ⟨some 19, .load none (.t 18), some (11, true)⟩,
  ⟨some 20, .build [.c (.lit (.int .i64 0)), .c (.lit (.int .i64 0)), .c (.lit (.int .i64 0)), .c (.lit (.int .i64 0)), .c (.lit (.slice none 0 0))] [(0, 1, (.t 19)), (1, 1, (.k (.c (.lit (.int .i64 1)))))], some (11, true)⟩,
  ⟨some 21, .call (.k (.c (.fn (.func 7) [] []))) [(.t 16), (.t 20)], some (11, true)⟩,
  ⟨some 22, .pick (.t 11) (.t 21) (.k (.c (.lit (.bool false)))), none⟩,
  ⟨some 2, .mov (.t 22), none⟩] [0, 1, 0, 4, 15, 31, 63, 127, 255, 127, 639, 2047, 127, 4223, 12415, 28799, 65535, 131071, 262143] 19 0)
 (.ret))), true⟩
theorem C3 : compF Tryz.prog Tryz.f3 true = some A3 := by kernel_rfl

/- drayage/drayagelaw24.awake -/
def A5 : AFunc := ⟨0, 32, [(0, none)], .seq (.reg [⟨some 0, .mov (.k (.c (.lit (.bool false)))), none⟩])
 (.seq (.reg [⟨some 7, .call (.k (.c (.fn (.func 26) [] []))) [], none⟩,
  ⟨some 8, .call (.k (.c (.fn (.func 25) [] []))) [(.t 7)], none⟩,
  ⟨some 6, .mov (.t 8), none⟩,
  ⟨some 9, .extract (.t 6) 0, none⟩,
  ⟨some 10, .extract (.t 6) 1, none⟩,
  ⟨some 1, .mov (.t 9), none⟩,
  ⟨some 2, .mov (.t 10), none⟩])
 (.seq (.reg [⟨some 11, .build [.c (.lit (.int .i64 0)), .c (.lit (.int .i64 0)), .c (.lit (.int .i64 0)), .c (.lit (.int .i64 0))] [(0, 1, (.k (.c (.lit (.int .i64 1)))))], none⟩,
  ⟨some 12, .build [.c (.lit (.int .i64 0)), .c (.lit (.int .i64 0)), .c (.lit (.int .i64 0)), .c (.lit (.int .i64 0)), .c (.lit (.int .i64 0)), .c (.lit (.int .i64 0)), .c (.lit (.int .i64 0)), .c (.lit (.int .i64 0)), .c (.lit (.int .i64 0)), .c (.lit (.int .i64 0)), .c (.lit (.int .i64 0)), .c (.lit (.int .i64 0)), .c (.lit (.slice none 0 0)), .c (.lit (.int .i64 0)), .c (.lit (.int .i64 0)), .c (.lit (.int .i64 0)), .c (.lit (.int .i64 0))] [(0, 1, (.k (.c (.lit (.int .i64 1))))), (1, 1, (.k (.c (.lit (.int .i64 7))))), (4, 1, (.k (.c (.lit (.int .i64 1))))), (5, 1, (.k (.c (.lit (.int .i64 1))))), (6, 4, (.t 11)), (10, 1, (.k (.c (.lit (.int .i64 5))))), (11, 1, (.k (.c (.lit (.int .i64 2)))))], none⟩,
  ⟨some 3, .alloc [.c (.lit (.int .i64 0)), .c (.lit (.int .i64 0)), .c (.lit (.int .i64 0)), .c (.lit (.int .i64 0)), .c (.lit (.int .i64 0)), .c (.lit (.int .i64 0)), .c (.lit (.int .i64 0)), .c (.lit (.int .i64 0)), .c (.lit (.int .i64 0)), .c (.lit (.int .i64 0)), .c (.lit (.int .i64 0)), .c (.lit (.int .i64 0)), .c (.lit (.slice none 0 0)), .c (.lit (.int .i64 0)), .c (.lit (.int .i64 0)), .c (.lit (.int .i64 0)), .c (.lit (.int .i64 0))], none⟩,
  ⟨none, .store 17 (.t 3) (.t 12), none⟩])
 (.seq (.drw [⟨some 13, .mov (.t 1), none⟩,
  ⟨some 14, .load (some 17) (.t 3), none⟩,
  ⟨some 15, .call (.k (.c (.fn (.func 8) [] []))) [(.t 13), (.k (.c (.lit (.int .i64 2)))), (.t 14)], none⟩,
  ⟨some 16, .mov (.t 1), none⟩,
  ⟨some 17, .load (some 17) (.t 3), none⟩,
  ⟨some 18, .call (.k (.c (.fn (.func 8) [] []))) [(.t 16), (.k (.c (.lit (.int .i64 1)))), (.t 17)], none⟩,
  ⟨some 4, .alloc [.c (.lit (.int .i64 0)), .c (.lit (.int .i64 0)), .c (.lit (.int .i64 0)), .c (.lit (.int .i64 0)), .c (.lit (.slice none 0 0))], none⟩,
  ⟨some 5, .alloc [.c (.lit (.int .i64 0)), .c (.lit (.int .i64 0)), .c (.lit (.int .i64 0)), .c (.lit (.int .i64 0)), .c (.lit (.slice none 0 0))], none⟩,
  ⟨none, .store 5 (.t 4) (.t 15), none⟩,
  ⟨none, .store 5 (.t 5) (.t 18), none⟩] [0, 0, 3, 0, 0, 31, 0, 0, 255, 511] 10 1)
 (.seq (.reg [⟨some 19, .mov (.t 2), none⟩,
  ⟨some 20, .gen (.binOp .eql 30 (.tmp 19) (.const (.int .i64 0)) 30) 4, none⟩,
  ⟨some 21, .mov (.t 20), none⟩,
  ⟨some 22, .load (some 5) (.t 4), some (21, true)⟩,
  ⟨some 23, .build [.c (.lit (.int .i64 0)), .c (.lit (.int .i64 0)), .c (.lit (.int .i64 0)), .c (.lit (.int .i64 0)), .c (.lit (.slice none 0 0))] [(0, 1, (.k (.c (.lit (.int .i64 7))))), (1, 1, (.k (.c (.lit (.int .i64 33)))))], some (21, true)⟩,
  ⟨some 24, .call (.k (.c (.fn (.func 7) [] []))) [(.t 22), (.t 23)], some (21, true)⟩,
  ⟨some 25, .pick (.t 21) (.t 24) (.k (.c (.lit (.bool false)))), none⟩,
  ⟨some 26, .mov (.t 25), none⟩,
  ⟨some 27, .load (some 5) (.t 5), some (26, true)⟩,
  ⟨some 28, .bslice 1 1 [.c (.lit (.int .i64 0))] [(0, 1, (.k (.c (.lit (.int .i64 2)))))], some (26, true)⟩,
  ⟨some 29, .build [.c (.lit (.int .i64 0)), .c (.lit (.int .i64 0)), .c (.lit (.int .i64 0)), .c (.lit (.int .i64 0)), .c (.lit (.slice none 0 0))] [(0, 1, (.k (.c (.lit (.int .i64 7))))), (2, 1, (.k (.c (.lit (.int .i64 1))))), (3, 1, (.k (.c (.lit (.int .i64 1))))), (4, 1, (.t 28))], some (26, true)⟩,
  ⟨some 30, .call (.k (.c (.fn (.func 7) [] []))) [(.t 27), (.t 29)], some (26, true)⟩,
  ⟨some 31, .pick (.t 26) (.t 30) (.k (.c (.lit (.bool false)))), none⟩,
  ⟨some 0, .mov (.t 31), none⟩])
 (.ret))))), true⟩
theorem C5 : compF Tryz.prog Tryz.f5 true = some A5 := by kernel_rfl

/- drayage/submit.Check -/
def A6_l0 : ACode := .seq (.reg [⟨some 24, .gen (.binOp .lss 3 (.tmp 23) (.tmp 22) 3) 0, none⟩])
 (.seq (.cond (.t 24) (.skip) (.exit 0))
 (.seq (.block 1 (.seq (.reg [⟨some 25, .idx 1 none (.t 21) (.t 23), none⟩,
  ⟨some 26, .load (some 1) (.t 25), none⟩,
  ⟨some 9, .alloc [.c (.lit .nilFunc)], none⟩,
  ⟨none, .store 1 (.t 9) (.t 26), none⟩])
 (.seq (.reg [⟨some 27, .fld 0 (.t 9), none⟩,
  ⟨some 28, .load none (.t 27), none⟩,
  ⟨some 29, .mov (.t 7), none⟩,
  ⟨some 30, .call (.t 28) [(.t 29)], none⟩,
  ⟨some 10, .mov (.t 30), none⟩])
 (.seq (.reg [⟨some 31, .mov (.t 10), none⟩,
  ⟨some 32, .gen (.binOp .neq 30 (.tmp 31) (.const (.int .i64 0)) 30) 4, none⟩])
 (.cond (.t 32) (.seq (.reg [⟨some 33, .mov (.t 10), none⟩,
  ⟨some 6, .mov (.t 33), none⟩])
 (.ret)) (.skip))))))
 (.reg [⟨some 34, .gen (.binOp .add 3 (.tmp 23) (.const (.int .i64 1)) 3) 3, none⟩,
  ⟨some 23, .mov (.t 34), none⟩])))
def A6 : AFunc := ⟨3, 35, [(6, none)], .seq (.reg [⟨some 5, .box (.t 2), none⟩,
  ⟨some 6, .mov (.k (.c (.lit (.int .i64 0)))), none⟩])
 (.seq (.seq (.reg [⟨some 11, .mov (.t 0), none⟩,
  ⟨some 12, .isnil 0 false (.t 11), none⟩])
 (.cond (.t 12) (.seq (.reg [⟨some 6, .mov (.k (.c (.lit (.int .i64 1)))), none⟩])
 (.ret)) (.skip)))
 (.seq (.drw [⟨some 13, .mov (.t 0), none⟩,
  ⟨some 14, .call (.k (.c (.fn (.func 24) [] []))) [(.t 13)], none⟩,
  ⟨some 15, .mov (.t 0), none⟩,
  ⟨some 16, .call (.k (.c (.fn (.func 22) [] []))) [(.t 15)], none⟩,
  ⟨some 17, .mov (.t 1), none⟩,
  ⟨some 18, .load (some 17) (.t 5), none⟩,
  ⟨some 19, .build [.c (.lit (.slice none 0 0)), .c (.lit (.slice none 0 0)), .c (.lit (.slice none 0 0)), .c (.lit (.int .i64 0)), .c (.lit (.int .i64 0)), .c (.lit (.int .i64 0)), .c (.lit (.int .i64 0)), .c (.lit (.int .i64 0)), .c (.lit (.int .i64 0)), .c (.lit (.int .i64 0)), .c (.lit (.int .i64 0)), .c (.lit (.int .i64 0)), .c (.lit (.int .i64 0)), .c (.lit (.int .i64 0)), .c (.lit (.int .i64 0)), .c (.lit (.int .i64 0)), .c (.lit (.int .i64 0)), .c (.lit (.int .i64 0)), .c (.lit (.int .i64 0)), .c (.lit (.int .i64 0)), .c (.lit (.int .i64 0)), .c (.lit (.slice none 0 0)), .c (.lit (.slice none 0 0)), .c (.lit (.slice none 0 0)), .c (.lit (.slice none 0 0)), .c (.lit (.slice none 0 0)), .c (.lit (.int .i64 0)), .c (.lit (.int .i64 0)), .c (.lit (.int .i64 0)), .c (.lit (.int .i64 0)), .c (.lit (.int .i64 0)), .c (.lit (.int .i64 0)), .c (.lit (.int .i64 0)), .c (.lit (.int .i64 0)), .c (.lit (.int .i64 0)), .c (.lit (.int .i64 0)), .c (.lit (.int .i64 0)), .c (.lit (.int .i64 0)), .c (.lit (.int .i64 0)), .c (.lit (.int .i64 0)), .c (.lit (.slice none 0 0)), .c (.lit (.int .i64 0)), .c (.lit (.int .i64 0)), .c (.lit (.int .i64 0)), .c (.lit (.int .i64 0))] [(0, 18, (.t 14)), (18, 9, (.t 16)), (27, 1, (.t 17)), (28, 17, (.t 18))], none⟩,
  ⟨some 20, .box (.t 19), none⟩,
  ⟨some 7, .mov (.t 20), none⟩] [0, 1, 0, 7, 0, 0, 63, 127, 255] 9 1)
 (.seq (.seq (.reg [⟨some 21, .call (.k (.c (.fn (.func 27) [] []))) [], none⟩,
  ⟨some 22, .len (.t 21), none⟩,
  ⟨some 23, .mov (.k (.c (.lit (.int .i64 0)))), none⟩])
 (.block 0 (.loop A6_l0)))
 (.seq (.reg [⟨some 6, .mov (.k (.c (.lit (.int .i64 0)))), none⟩])
 (.ret))))), true⟩
theorem C6 : compF Tryz.prog Tryz.f6 true = some A6 := by kernel_rfl

/- drayage/drayageref09.Same -/
def A7 : AFunc := ⟨2, 38, [(4, none)], .seq (.reg [⟨some 2, .box (.t 0), none⟩,
  ⟨some 3, .box (.t 1), none⟩,
  ⟨some 4, .mov (.k (.c (.lit (.bool false)))), none⟩])
 (.seq (.reg [⟨some 5, .fld 0 (.t 2), none⟩,
  ⟨some 6, .load none (.t 5), none⟩,
  ⟨some 7, .fld 0 (.t 3), none⟩,
  ⟨some 8, .load none (.t 7), none⟩,
  ⟨some 9, .gen (.binOp .eql 3 (.tmp 6) (.tmp 8) 3) 4, none⟩,
  ⟨some 10, .mov (.t 9), none⟩,
  ⟨some 11, .fld 1 (.t 2), some (10, true)⟩,
  ⟨some 12, .load none (.t 11), some (10, true)⟩,
  ⟨some 13, .fld 1 (.t 3), some (10, true)⟩,
  ⟨some 14, .load none (.t 13), some (10, true)⟩,
  ⟨some 15, .gen (.binOp .eql 30 (.tmp 12) (.tmp 14) 30) 4, some (10, true)⟩,
  ⟨some 16, .pick (.t 10) (.t 15) (.k (.c (.lit (.bool false)))), none⟩,
  ⟨some 17, .mov (.t 16), none⟩,
  ⟨some 18, .fld 2 (.t 2), some (17, true)⟩,
  ⟨some 19, .load none (.t 18), some (17, true)⟩,
  ⟨some 20, .fld 2 (.t 3), some (17, true)⟩,
  ⟨some 21, .load none (.t 20), some (17, true)⟩,
  ⟨some 22, .gen (.binOp .eql 3 (.tmp 19) (.tmp 21) 3) 4, some (17, true)⟩,
  ⟨some 23, .pick (.t 17) (.t 22) (.k (.c (.lit (.bool false)))), none⟩,
  ⟨some 24, .mov (.t 23), none⟩,
  ⟨some 25, .fld 3 (.t 2), some (24, true)⟩,
  ⟨some 26, .load none (.t 25), some (24, true)⟩,
  ⟨some 27, .fld 3 (.t 3), some (24, true)⟩,
  ⟨some 28, .load none (.t 27), some (24, true)⟩,
  ⟨some 29, .gen (.binOp .eql 3 (.tmp 26) (.tmp 28) 3) 4, some (24, true)⟩,
  ⟨some 30, .pick (.t 24) (.t 29) (.k (.c (.lit (.bool false)))), none⟩,
  ⟨some 31, .mov (.t 30), none⟩,
  ⟨some 32, .fld 4 (.t 2), some (31, true)⟩,
  ⟨some 33, .load none (.t 32), some (31, true)⟩,
  ⟨some 34, .fld 4 (.t 3), some (31, true)⟩,
  ⟨some 35, .load none (.t 34), some (31, true)⟩,
  ⟨some 36, .call (.k (.c (.fn (.func 28) [] []))) [(.t 33), (.t 35)], some (31, true)⟩,
  ⟨some 37, .pick (.t 31) (.t 36) (.k (.c (.lit (.bool false)))), none⟩,
  ⟨some 4, .mov (.t 37), none⟩])
 (.ret)), true⟩
theorem C7 : compF Tryz.prog Tryz.f7 true = some A7 := by kernel_rfl

/- drayage/submit.Do -/
def A8_l0 : ACode := .seq (.reg [⟨some 34, .gen (.binOp .lss 3 (.tmp 33) (.tmp 32) 3) 4, none⟩])
 (.seq (.cond (.t 34) (.skip) (.exit 0))
 (.seq (.block 1 (.seq (.reg [⟨some 35, .mov (.t 33), none⟩,
  ⟨some 10, .mov (.t 35), none⟩])
 (.seq (.reg [⟨some 37, .fld 1 (.t 8), none⟩,
  ⟨some 38, .load none (.t 37), none⟩,
  ⟨some 39, .mov (.t 10), none⟩,
  ⟨some 40, .gen (.binOp .add 3 (.tmp 38) (.tmp 39) 3) 3, none⟩,
  ⟨some 41, .mov (.t 1), none⟩,
  ⟨some 42, .fld 0 (.t 8), none⟩,
  ⟨some 43, .load none (.t 42), none⟩,
  ⟨some 44, .load (some 17) (.t 5), none⟩,
  ⟨some 45, .call (.k (.c (.fn (.func 30) [] []))) [(.t 40), (.t 41), (.t 43), (.t 44)], none⟩,
  ⟨some 36, .mov (.t 45), none⟩,
  ⟨some 46, .extract (.t 36) 0, none⟩,
  ⟨some 47, .extract (.t 36) 1, none⟩,
  ⟨some 11, .alloc [.c (.lit (.int .i64 0)), .c (.lit (.int .i64 0)), .c (.lit (.int .i64 0)), .c (.lit (.int .i64 0)), .c (.lit (.int .i64 0)), .c (.lit (.int .i64 0)), .c (.lit (.int .i64 0)), .c (.lit (.int .i64 0)), .c (.lit (.int .i64 0)), .c (.lit (.slice none 0 0)), .c (.lit (.int .i64 0)), .c (.lit (.bool false)), .c (.lit (.bool false)), .c (.lit (.int .i64 0)), .c (.lit (.int .i64 0)), .c (.lit (.int .i64 0)), .c (.lit (.int .i64 0)), .c (.lit (.int .i64 0))], none⟩,
  ⟨none, .store 18 (.t 11) (.t 46), none⟩,
  ⟨some 12, .mov (.t 47), none⟩])
 (.seq (.seq (.reg [⟨some 48, .mov (.t 12), none⟩,
  ⟨some 49, .gen (.binOp .neq 30 (.tmp 48) (.const (.int .i64 0)) 30) 4, none⟩])
 (.cond (.t 49) (.seq (.reg [⟨some 50, .fld 1 (.t 5), none⟩,
  ⟨some 51, .load none (.t 50), none⟩,
  ⟨some 52, .mov (.t 12), none⟩,
  ⟨some 53, .call (.k (.c (.fn (.func 29) [] []))) [(.t 51), (.t 52)], none⟩,
  ⟨none, .store 5 (.t 6) (.t 53), none⟩])
 (.ret)) (.skip)))
 (.seq (.seq (.reg [⟨some 54, .fld 11 (.t 5), none⟩,
  ⟨some 55, .load none (.t 54), none⟩,
  ⟨some 56, .gen (.binOp .gtr 3 (.tmp 55) (.const (.int .i64 1)) 3) 4, none⟩])
 (.cond (.t 56) (.reg [⟨some 57, .fld 1 (.t 8), none⟩,
  ⟨some 58, .load none (.t 57), none⟩,
  ⟨some 59, .fld 17 (.t 11), none⟩,
  ⟨none, .store 1 (.t 59) (.t 58), none⟩]) (.skip)))
 (.reg [⟨some 60, .mov (.t 9), none⟩,
  ⟨some 61, .load (some 18) (.t 11), none⟩,
  ⟨some 62, .bslice 18 1 [.c (.lit (.int .i64 0)), .c (.lit (.int .i64 0)), .c (.lit (.int .i64 0)), .c (.lit (.int .i64 0)), .c (.lit (.int .i64 0)), .c (.lit (.int .i64 0)), .c (.lit (.int .i64 0)), .c (.lit (.int .i64 0)), .c (.lit (.int .i64 0)), .c (.lit (.slice none 0 0)), .c (.lit (.int .i64 0)), .c (.lit (.bool false)), .c (.lit (.bool false)), .c (.lit (.int .i64 0)), .c (.lit (.int .i64 0)), .c (.lit (.int .i64 0)), .c (.lit (.int .i64 0)), .c (.lit (.int .i64 0))] [(0, 18, (.t 61))], none⟩,
  ⟨some 63, .append 18 152 (.t 60) (.t 62), none⟩,
  ⟨some 9, .mov (.t 63), none⟩]))))))
 (.reg [⟨some 64, .gen (.binOp .add 3 (.tmp 33) (.const (.int .i64 1)) 3) 3, none⟩,
  ⟨some 33, .mov (.t 64), none⟩])))
def A8_l1 : ACode := .seq (.reg [⟨some 68, .gen (.binOp .lss 3 (.tmp 67) (.tmp 66) 3) 0, none⟩])
 (.seq (.cond (.t 68) (.skip) (.exit 2))
 (.seq (.block 3 (.seq (.reg [⟨some 69, .idx 18 none (.t 65) (.t 67), none⟩,
  ⟨some 70, .load (some 18) (.t 69), none⟩,
  ⟨some 14, .alloc [.c (.lit (.int .i64 0)), .c (.lit (.int .i64 0)), .c (.lit (.int .i64 0)), .c (.lit (.int .i64 0)), .c (.lit (.int .i64 0)), .c (.lit (.int .i64 0)), .c (.lit (.int .i64 0)), .c (.lit (.int .i64 0)), .c (.lit (.int .i64 0)), .c (.lit (.slice none 0 0)), .c (.lit (.int .i64 0)), .c (.lit (.bool false)), .c (.lit (.bool false)), .c (.lit (.int .i64 0)), .c (.lit (.int .i64 0)), .c (.lit (.int .i64 0)), .c (.lit (.int .i64 0)), .c (.lit (.int .i64 0))], none⟩,
  ⟨none, .store 18 (.t 14) (.t 70), none⟩])
 (.seq (.reg [⟨some 71, .mov (.t 0), none⟩,
  ⟨some 72, .load (some 18) (.t 14), none⟩,
  ⟨some 73, .call (.k (.c (.fn (.func 12) [] []))) [(.t 71), (.t 72)], none⟩,
  ⟨some 15, .mov (.t 73), none⟩])
 (.seq (.reg [⟨some 74, .mov (.t 15), none⟩,
  ⟨some 75, .gen (.binOp .neq 30 (.tmp 74) (.const (.int .i64 0)) 30) 4, none⟩])
 (.cond (.t 75) (.seq (.reg [⟨some 76, .fld 1 (.t 5), none⟩,
  ⟨some 77, .load none (.t 76), none⟩,
  ⟨some 78, .mov (.t 15), none⟩,
  ⟨some 79, .call (.k (.c (.fn (.func 29) [] []))) [(.t 77), (.t 78)], none⟩,
  ⟨none, .store 5 (.t 6) (.t 79), none⟩])
 (.ret)) (.skip))))))
 (.reg [⟨some 80, .gen (.binOp .add 3 (.tmp 67) (.const (.int .i64 1)) 3) 3, none⟩,
  ⟨some 67, .mov (.t 80), none⟩])))
def A8 : AFunc := ⟨3, 89, [(6, some (some 5))], .seq (.reg [⟨some 5, .box (.t 2), none⟩,
  ⟨some 6, .alloc [.c (.lit (.int .i64 0)), .c (.lit (.int .i64 0)), .c (.lit (.int .i64 0)), .c (.lit (.int .i64 0)), .c (.lit (.slice none 0 0))], none⟩])
 (.seq (.seq (.reg [⟨some 16, .mov (.t 0), none⟩,
  ⟨some 17, .mov (.t 1), none⟩,
  ⟨some 18, .load (some 17) (.t 5), none⟩,
  ⟨some 19, .call (.k (.c (.fn (.func 6) [] []))) [(.t 16), (.t 17), (.t 18)], none⟩,
  ⟨some 7, .mov (.t 19), none⟩])
 (.seq (.reg [⟨some 20, .mov (.t 7), none⟩,
  ⟨some 21, .gen (.binOp .neq 30 (.tmp 20) (.const (.int .i64 0)) 30) 4, none⟩])
 (.cond (.t 21) (.seq (.reg [⟨some 22, .fld 1 (.t 5), none⟩,
  ⟨some 23, .load none (.t 22), none⟩,
  ⟨some 24, .mov (.t 7), none⟩,
  ⟨some 25, .call (.k (.c (.fn (.func 29) [] []))) [(.t 23), (.t 24)], none⟩,
  ⟨none, .store 5 (.t 6) (.t 25), none⟩])
 (.ret)) (.skip))))
 (.seq (.reg [⟨some 26, .mov (.t 0), none⟩,
  ⟨some 27, .call (.k (.c (.fn (.func 22) [] []))) [(.t 26)], none⟩,
  ⟨some 8, .alloc [.c (.lit (.int .i64 0)), .c (.lit (.int .i64 0)), .c (.lit (.int .i64 0)), .c (.lit (.slice none 0 0)), .c (.lit (.slice none 0 0)), .c (.lit (.slice none 0 0)), .c (.lit (.slice none 0 0)), .c (.lit (.slice none 0 0)), .c (.lit (.int .i64 0))], none⟩,
  ⟨none, .store 9 (.t 8) (.t 27), none⟩])
 (.seq (.reg [⟨some 28, .fld 11 (.t 5), none⟩,
  ⟨some 29, .load none (.t 28), none⟩,
  ⟨some 30, .mk 18 152 [.c (.lit (.int .i64 0)), .c (.lit (.int .i64 0)), .c (.lit (.int .i64 0)), .c (.lit (.int .i64 0)), .c (.lit (.int .i64 0)), .c (.lit (.int .i64 0)), .c (.lit (.int .i64 0)), .c (.lit (.int .i64 0)), .c (.lit (.int .i64 0)), .c (.lit (.slice none 0 0)), .c (.lit (.int .i64 0)), .c (.lit (.bool false)), .c (.lit (.bool false)), .c (.lit (.int .i64 0)), .c (.lit (.int .i64 0)), .c (.lit (.int .i64 0)), .c (.lit (.int .i64 0)), .c (.lit (.int .i64 0))] (.k (.c (.lit (.int .i64 0)))) (.t 29), none⟩,
  ⟨some 9, .mov (.t 30), none⟩])
 (.seq (.seq (.reg [⟨some 31, .fld 11 (.t 5), none⟩,
  ⟨some 32, .load none (.t 31), none⟩,
  ⟨some 33, .mov (.k (.c (.lit (.int .i64 0)))), none⟩])
 (.block 0 (.loop A8_l0)))
 (.seq (.seq (.reg [⟨some 65, .mov (.t 9), none⟩,
  ⟨some 66, .len (.t 65), none⟩,
  ⟨some 67, .mov (.k (.c (.lit (.int .i64 0)))), none⟩])
 (.block 2 (.loop A8_l1)))
 (.seq (.reg [⟨some 81, .fld 1 (.t 5), none⟩,
  ⟨some 82, .load none (.t 81), none⟩,
  ⟨some 83, .fld 1 (.t 8), none⟩,
  ⟨some 84, .load none (.t 83), none⟩,
  ⟨some 85, .fld 11 (.t 5), none⟩,
  ⟨some 86, .load none (.t 85), none⟩,
  ⟨some 87, .bslice 1 1 [.c (.lit (.int .i64 0))] [(0, 1, (.t 86))], none⟩,
  ⟨some 88, .build [.c (.lit (.int .i64 0)), .c (.lit (.int .i64 0)), .c (.lit (.int .i64 0)), .c (.lit (.int .i64 0)), .c (.lit (.slice none 0 0))] [(0, 1, (.t 82)), (2, 1, (.t 84)), (3, 1, (.k (.c (.lit (.int .i64 1))))), (4, 1, (.t 87))], none⟩,
  ⟨none, .store 5 (.t 6) (.t 88), none⟩])
 (.ret))))))), true⟩
theorem C8 : compF Tryz.prog Tryz.f8 true = some A8 := by kernel_rfl

/- (*drayage/store.Store).Put -/
def A12 : AFunc := ⟨2, 60, [(4, none)], .seq (.reg [⟨some 3, .box (.t 1), none⟩,
  ⟨some 4, .mov (.k (.c (.lit (.int .i64 0)))), none⟩])
 (.seq (.seq (.reg [⟨some 6, .mov (.t 0), none⟩,
  ⟨some 7, .isnil 0 false (.t 6), none⟩])
 (.cond (.t 7) (.seq (.reg [⟨some 4, .mov (.k (.c (.lit (.int .i64 1)))), none⟩])
 (.ret)) (.skip)))
 (.seq (.seq (.drw [⟨some 8, .load (some 18) (.t 3), none⟩,
  ⟨some 9, .call (.k (.c (.fn (.func 36) [] []))) [(.t 8)], none⟩,
  ⟨some 10, .gen (.unOp .not 4 (.tmp 9)) 4, none⟩,
  ⟨some 11, .mov (.t 10), none⟩,
  ⟨some 12, .fld 10 (.t 3), some (11, false)⟩,
  ⟨some 13, .load none (.t 12), some (11, false)⟩,
  ⟨some 14, .gen (.binOp .neq 3 (.tmp 13) (.const (.int .i64 1)) 3) 4, some (11, false)⟩,
  ⟨some 15, .pick (.t 11) (.k (.c (.lit (.bool true)))) (.t 14), none⟩,
  ⟨some 16, .mov (.t 15), none⟩,
  ⟨some 17, .fld 0 (.t 3), some (16, false)⟩,
  ⟨some 18, .load none (.t 17), some (16, false)⟩,
  ⟨some 19, .mov (.t 0), some (16, false)⟩,
  ⟨some 20, .nilck (.t 19), some (16, false)⟩,
  ⟨some 21, .fld 21 (.t 20), some (16, false)⟩,
  ⟨some 22, .load none (.t 21), some (16, false)⟩,
  ⟨some 23, .gen (.binOp .neq 3 (.tmp 18) (.tmp 22) 3) 4, some (16, false)⟩,
  ⟨some 24, .pick (.t 16) (.k (.c (.lit (.bool true)))) (.t 23), none⟩,
  ⟨some 25, .mov (.t 24), none⟩,
  ⟨some 26, .fld 13 (.t 3), some (25, false)⟩,
  ⟨some 27, .load none (.t 26), some (25, false)⟩,
  ⟨some 28, .gen (.binOp .neq 3 (.tmp 27) (.const (.int .i64 1)) 3) 4, some (25, false)⟩,
  ⟨some 29, .pick (.t 25) (.k (.c (.lit (.bool true)))) (.t 28), none⟩] [0, 1, 3, 7, 15, 31, 63, 127, 255, 511, 1023, 511, 2559, 6655, 14847, 32767, 65535, 131071, 262143, 524287, 1048575, 2097151] 22 0)
 (.cond (.t 29) (.seq (.reg [⟨some 4, .mov (.k (.c (.lit (.int .i64 2)))), none⟩])
 (.ret)) (.skip)))
 (.seq (.seq (.drw [⟨some 30, .mov (.t 0), none⟩,
  ⟨some 31, .nilck (.t 30), none⟩,
  ⟨some 32, .fld 21 (.t 31), none⟩,
  ⟨some 33, .load none (.t 32), none⟩,
  ⟨some 34, .mov (.t 0), none⟩,
  ⟨some 35, .nilck (.t 34), none⟩,
  ⟨some 36, .fld 2 (.t 35), none⟩,
  ⟨some 37, .fld 11 (.t 36), none⟩,
  ⟨some 38, .load none (.t 37), none⟩,
  ⟨some 39, .gen (.binOp .gtr 3 (.tmp 33) (.tmp 38) 3) 4, none⟩] [0, 1, 3, 7, 0, 16, 48, 112, 240, 511] 10 1)
 (.cond (.t 39) (.seq (.reg [⟨some 4, .mov (.k (.c (.lit (.int .i64 36)))), none⟩])
 (.ret)) (.skip)))
 (.seq (.seq (.drw [⟨some 40, .mov (.t 0), none⟩,
  ⟨some 41, .nilck (.t 40), none⟩,
  ⟨some 42, .fld 0 (.t 41), none⟩,
  ⟨some 43, .load none (.t 42), none⟩,
  ⟨some 44, .load (some 18) (.t 3), none⟩,
  ⟨some 45, .call (.k (.c (.fn (.func 37) [] []))) [(.t 43), (.t 44)], none⟩,
  ⟨some 5, .mov (.t 45), none⟩] [0, 1, 3, 7, 0, 31, 63] 7 1)
 (.seq (.reg [⟨some 46, .mov (.t 5), none⟩,
  ⟨some 47, .gen (.binOp .neq 30 (.tmp 46) (.const (.int .i64 0)) 30) 4, none⟩])
 (.cond (.t 47) (.seq (.reg [⟨some 48, .mov (.t 5), none⟩,
  ⟨some 4, .mov (.t 48), none⟩])
 (.ret)) (.skip))))
 (.seq (.reg [⟨some 49, .mov (.t 0), none⟩,
  ⟨some 50, .nilck (.t 49), none⟩,
  ⟨some 51, .fld 21 (.t 50), none⟩,
  ⟨some 52, .load none (.t 51), none⟩,
  ⟨some 53, .gen (.binOp .add 3 (.tmp 52) (.const (.int .i64 1)) 3) 3, none⟩,
  ⟨some 54, .nilck (.t 49), none⟩,
  ⟨some 55, .fld 21 (.t 54), none⟩,
  ⟨none, .store 1 (.t 55) (.t 53), none⟩])
 (.seq (.reg [⟨some 56, .mov (.t 0), none⟩,
  ⟨some 57, .fld 2 (.t 3), none⟩,
  ⟨some 58, .load none (.t 57), none⟩,
  ⟨some 59, .call (.k (.c (.fn (.func 38) [] []))) [(.t 56), (.t 58)], none⟩])
 (.seq (.reg [⟨some 4, .mov (.k (.c (.lit (.int .i64 0)))), none⟩])
 (.ret)))))))), true⟩
theorem C12 : compF Tryz.prog Tryz.f12 true = some A12 := by kernel_rfl

/- (*drayage/store.Store).State -/
def A22 : AFunc := ⟨1, 51, [(2, some (some 9))], .seq (.reg [⟨some 2, .alloc [.c (.lit (.int .i64 0)), .c (.lit (.int .i64 0)), .c (.lit (.int .i64 0)), .c (.lit (.slice none 0 0)), .c (.lit (.slice none 0 0)), .c (.lit (.slice none 0 0)), .c (.lit (.slice none 0 0)), .c (.lit (.slice none 0 0)), .c (.lit (.int .i64 0))], none⟩])
 (.seq (.seq (.reg [⟨some 3, .mov (.t 0), none⟩,
  ⟨some 4, .isnil 0 false (.t 3), none⟩])
 (.cond (.t 4) (.seq (.reg [⟨some 5, .build [.c (.lit (.int .i64 0)), .c (.lit (.int .i64 0)), .c (.lit (.int .i64 0)), .c (.lit (.slice none 0 0)), .c (.lit (.slice none 0 0)), .c (.lit (.slice none 0 0)), .c (.lit (.slice none 0 0)), .c (.lit (.slice none 0 0)), .c (.lit (.int .i64 0))] [], none⟩,
  ⟨none, .store 9 (.t 2) (.t 5), none⟩])
 (.ret)) (.skip)))
 (.seq (.drw [⟨some 6, .mov (.t 0), none⟩,
  ⟨some 7, .nilck (.t 6), none⟩,
  ⟨some 8, .fld 20 (.t 7), none⟩,
  ⟨some 9, .load none (.t 8), none⟩,
  ⟨some 10, .mov (.t 0), none⟩,
  ⟨some 11, .nilck (.t 10), none⟩,
  ⟨some 12, .fld 21 (.t 11), none⟩,
  ⟨some 13, .load none (.t 12), none⟩,
  ⟨some 14, .mov (.t 0), none⟩,
  ⟨some 15, .nilck (.t 14), none⟩,
  ⟨some 16, .fld 22 (.t 15), none⟩,
  ⟨some 17, .load none (.t 16), none⟩,
  ⟨some 18, .mov (.t 0), none⟩,
  ⟨some 19, .nilck (.t 18), none⟩,
  ⟨some 20, .fld 0 (.t 19), none⟩,
  ⟨some 21, .load none (.t 20), none⟩,
  ⟨some 22, .call (.k (.c (.fn (.func 49) [] []))) [(.t 21)], none⟩,
  ⟨some 23, .mov (.t 0), none⟩,
  ⟨some 24, .nilck (.t 23), none⟩,
  ⟨some 25, .fld 1 (.t 24), none⟩,
  ⟨some 26, .load none (.t 25), none⟩,
  ⟨some 27, .call (.k (.c (.fn (.func 62) [] []))) [(.t 26)], none⟩,
  ⟨some 28, .mov (.t 0), none⟩,
  ⟨some 29, .nilck (.t 28), none⟩,
  ⟨some 30, .fld 23 (.t 29), none⟩,
  ⟨some 31, .load none (.t 30), none⟩,
  ⟨some 32, .call (.k (.c (.fn (.func 57) [] []))) [(.t 31)], none⟩,
  ⟨some 33, .mov (.t 0), none⟩,
  ⟨some 34, .nilck (.t 33), none⟩,
  ⟨some 35, .fld 24 (.t 34), none⟩,
  ⟨some 36, .load none (.t 35), none⟩,
  ⟨some 37, .call (.k (.c (.fn (.func 53) [] []))) [(.t 36)], none⟩,
  ⟨some 38, .mov (.t 0), none⟩,
  ⟨some 39, .nilck (.t 38), none⟩,
  ⟨some 40, .fld 25 (.t 39), none⟩,
  ⟨some 41, .fld 0 (.t 40), none⟩,
  ⟨some 42, .load none (.t 41), none⟩,
  ⟨some 43, .call (.k (.c (.fn (.func 53) [] []))) [(.t 42)], none⟩,
  ⟨some 44, .mov (.t 0), none⟩,
  ⟨some 45, .nilck (.t 44), none⟩,
  ⟨some 46, .fld 25 (.t 45), none⟩,
  ⟨some 47, .fld 1 (.t 46), none⟩,
  ⟨some 48, .load none (.t 47), none⟩,
  ⟨some 49, .build [.c (.lit (.slice none 0 0)), .c (.lit (.int .i64 0))] [(0, 1, (.t 43)), (1, 1, (.t 48))], none⟩,
  ⟨some 50, .build [.c (.lit (.int .i64 0)), .c (.lit (.int .i64 0)), .c (.lit (.int .i64 0)), .c (.lit (.slice none 0 0)), .c (.lit (.slice none 0 0)), .c (.lit (.slice none 0 0)), .c (.lit (.slice none 0 0)), .c (.lit (.slice none 0 0)), .c (.lit (.int .i64 0))] [(0, 1, (.t 9)), (1, 1, (.t 13)), (2, 1, (.t 17)), (3, 1, (.t 22)), (4, 1, (.t 27)), (5, 1, (.t 32)), (6, 1, (.t 37)), (7, 2, (.t 49))], none⟩,
  ⟨none, .store 9 (.t 2) (.t 50), none⟩] [0, 1, 3, 7, 0, 16, 48, 112, 0, 256, 768, 1792, 0, 4096, 12288, 28672, 61440, 0, 131072, 393216, 917504, 2093056, 0, 4194304, 12582912, 29360128, 67104768, 0, 134217728, 402653184, 939524096, 2147479552, 0, 4294967296, 12884901888, 30064771072, 64424509440, 137438949376, 0, 274877906944, 824633720832, 1924145348608, 4123168604160, 8796093018112, 17592186044415, 35184372088831] 46 1)
 (.ret))), true⟩
theorem C22 : compF Tryz.prog Tryz.f22 true = some A22 := by kernel_rfl

/- (*drayage/store.Store).Spec -/
def A24 : AFunc := ⟨1, 11, [(2, some (some 18))], .seq (.reg [⟨some 2, .alloc [.c (.lit (.slice none 0 0)), .c (.lit (.slice none 0 0)), .c (.lit (.slice none 0 0)), .c (.lit (.int .i64 0)), .c (.lit (.int .i64 0)), .c (.lit (.int .i64 0)), .c (.lit (.int .i64 0)), .c (.lit (.int .i64 0)), .c (.lit (.int .i64 0)), .c (.lit (.int .i64 0)), .c (.lit (.int .i64 0)), .c (.lit (.int .i64 0)), .c (.lit (.int .i64 0)), .c (.lit (.int .i64 0)), .c (.lit (.int .i64 0)), .c (.lit (.int .i64 0)), .c (.lit (.int .i64 0)), .c (.lit (.int .i64 0))], none⟩])
 (.seq (.seq (.reg [⟨some 3, .mov (.t 0), none⟩,
  ⟨some 4, .isnil 0 false (.t 3), none⟩])
 (.cond (.t 4) (.seq (.reg [⟨some 5, .build [.c (.lit (.slice none 0 0)), .c (.lit (.slice none 0 0)), .c (.lit (.slice none 0 0)), .c (.lit (.int .i64 0)), .c (.lit (.int .i64 0)), .c (.lit (.int .i64 0)), .c (.lit (.int .i64 0)), .c (.lit (.int .i64 0)), .c (.lit (.int .i64 0)), .c (.lit (.int .i64 0)), .c (.lit (.int .i64 0)), .c (.lit (.int .i64 0)), .c (.lit (.int .i64 0)), .c (.lit (.int .i64 0)), .c (.lit (.int .i64 0)), .c (.lit (.int .i64 0)), .c (.lit (.int .i64 0)), .c (.lit (.int .i64 0))] [], none⟩,
  ⟨none, .store 18 (.t 2) (.t 5), none⟩])
 (.ret)) (.skip)))
 (.seq (.reg [⟨some 6, .mov (.t 0), none⟩,
  ⟨some 7, .nilck (.t 6), none⟩,
  ⟨some 8, .fld 2 (.t 7), none⟩,
  ⟨some 9, .load (some 18) (.t 8), none⟩,
  ⟨some 10, .call (.k (.c (.fn (.func 63) [] []))) [(.t 9)], none⟩,
  ⟨none, .store 18 (.t 2) (.t 10), none⟩])
 (.ret))), true⟩
theorem C24 : compF Tryz.prog Tryz.f24 true = some A24 := by kernel_rfl

/- drayage/store.New -/
def A25 : AFunc := ⟨1, 41, [(2, none), (3, none)], .seq (.reg [⟨some 1, .box (.t 0), none⟩,
  ⟨some 2, .mov (.k (.c (.lit (.pointer none)))), none⟩,
  ⟨some 3, .mov (.k (.c (.lit (.int .i64 0)))), none⟩])
 (.seq (.seq (.reg [⟨some 7, .load (some 18) (.t 1), none⟩,
  ⟨some 8, .call (.k (.c (.fn (.func 64) [] []))) [(.t 7)], none⟩,
  ⟨some 9, .gen (.unOp .not 4 (.tmp 8)) 4, none⟩])
 (.cond (.t 9) (.seq (.reg [⟨some 2, .mov (.k (.c (.lit (.pointer none)))), none⟩,
  ⟨some 3, .mov (.k (.c (.lit (.int .i64 2)))), none⟩])
 (.ret)) (.skip)))
 (.seq (.reg [⟨some 11, .fld 10 (.t 1), none⟩,
  ⟨some 12, .load none (.t 11), none⟩,
  ⟨some 13, .call (.k (.c (.fn (.func 65) [] []))) [(.t 12)], none⟩,
  ⟨some 10, .mov (.t 13), none⟩,
  ⟨some 14, .extract (.t 10) 0, none⟩,
  ⟨some 15, .extract (.t 10) 1, none⟩,
  ⟨some 4, .mov (.t 14), none⟩,
  ⟨some 5, .mov (.t 15), none⟩])
 (.seq (.seq (.reg [⟨some 16, .mov (.t 5), none⟩,
  ⟨some 17, .gen (.binOp .neq 30 (.tmp 16) (.const (.int .i64 0)) 30) 4, none⟩])
 (.cond (.t 17) (.seq (.reg [⟨some 18, .mov (.t 5), none⟩,
  ⟨some 2, .mov (.k (.c (.lit (.pointer none)))), none⟩,
  ⟨some 3, .mov (.t 18), none⟩])
 (.ret)) (.skip)))
 (.seq (.reg [⟨some 20, .load (some 18) (.t 1), none⟩,
  ⟨some 21, .call (.k (.c (.fn (.func 66) [] []))) [(.t 20)], none⟩,
  ⟨some 19, .mov (.t 21), none⟩,
  ⟨some 22, .extract (.t 19) 0, none⟩,
  ⟨some 23, .extract (.t 19) 1, none⟩,
  ⟨some 6, .mov (.t 22), none⟩,
  ⟨some 5, .mov (.t 23), none⟩])
 (.seq (.seq (.reg [⟨some 24, .mov (.t 5), none⟩,
  ⟨some 25, .gen (.binOp .neq 30 (.tmp 24) (.const (.int .i64 0)) 30) 4, none⟩])
 (.cond (.t 25) (.seq (.reg [⟨some 26, .mov (.t 5), none⟩,
  ⟨some 2, .mov (.k (.c (.lit (.pointer none)))), none⟩,
  ⟨some 3, .mov (.t 26), none⟩])
 (.ret)) (.skip)))
 (.seq (.drw [⟨some 27, .mov (.t 4), none⟩,
  ⟨some 28, .mov (.t 6), none⟩,
  ⟨some 29, .load (some 18) (.t 1), none⟩,
  ⟨some 30, .call (.k (.c (.fn (.func 63) [] []))) [(.t 29)], none⟩,
  ⟨some 31, .fld 3 (.t 1), none⟩,
  ⟨some 32, .load none (.t 31), none⟩,
  ⟨some 33, .call (.k (.c (.fn (.func 67) [] []))) [(.t 32)], none⟩,
  ⟨some 34, .fld 2 (.t 1), none⟩,
  ⟨some 35, .load none (.t 34), none⟩,
  ⟨some 36, .len (.t 35), none⟩,
  ⟨some 37, .mk 1 8 [.c (.lit (.int .i64 0))] (.t 36) (.t 36), none⟩,
  ⟨some 38, .build [.c (.lit (.slice none 0 0)), .c (.lit (.int .i64 0))] [(0, 1, (.t 37))], none⟩,
  ⟨some 39, .build [.c (.lit (.pointer none)), .c (.lit (.pointer none)), .c (.lit (.slice none 0 0)), .c (.lit (.slice none 0 0)), .c (.lit (.slice none 0 0)), .c (.lit (.int .i64 0)), .c (.lit (.int .i64 0)), .c (.lit (.int .i64 0)), .c (.lit (.int .i64 0)), .c (.lit (.int .i64 0)), .c (.lit (.int .i64 0)), .c (.lit (.int .i64 0)), .c (.lit (.int .i64 0)), .c (.lit (.int .i64 0)), .c (.lit (.int .i64 0)), .c (.lit (.int .i64 0)), .c (.lit (.int .i64 0)), .c (.lit (.int .i64 0)), .c (.lit (.int .i64 0)), .c (.lit (.int .i64 0)), .c (.lit (.int .i64 0)), .c (.lit (.int .i64 0)), .c (.lit (.int .i64 0)), .c (.lit (.slice none 0 0)), .c (.lit (.slice none 0 0)), .c (.lit (.slice none 0 0)), .c (.lit (.int .i64 0))] [(0, 1, (.t 27)), (1, 1, (.t 28)), (2, 18, (.t 30)), (21, 1, (.k (.c (.lit (.int .i64 1))))), (22, 1, (.k (.c (.lit (.int .i64 1))))), (24, 1, (.t 33)), (25, 2, (.t 38))], none⟩,
  ⟨some 40, .box (.t 39), none⟩,
  ⟨some 2, .mov (.t 40), none⟩,
  ⟨some 3, .mov (.k (.c (.lit (.int .i64 0)))), none⟩] [0, 0, 0, 4, 0, 16, 60, 0, 128, 384, 896, 1920, 4095, 8191, 16383, 32767] 16 2)
 (.ret))))))), true⟩
theorem C25 : compF Tryz.prog Tryz.f25 true = some A25 := by kernel_rfl

/- drayage/drayageref07.Small -/
def A26 : AFunc := ⟨0, 23, [(0, some (some 18))], .seq (.reg [⟨some 0, .alloc [.c (.lit (.slice none 0 0)), .c (.lit (.slice none 0 0)), .c (.lit (.slice none 0 0)), .c (.lit (.int .i64 0)), .c (.lit (.int .i64 0)), .c (.lit (.int .i64 0)), .c (.lit (.int .i64 0)), .c (.lit (.int .i64 0)), .c (.lit (.int .i64 0)), .c (.lit (.int .i64 0)), .c (.lit (.int .i64 0)), .c (.lit (.int .i64 0)), .c (.lit (.int .i64 0)), .c (.lit (.int .i64 0)), .c (.lit (.int .i64 0)), .c (.lit (.int .i64 0)), .c (.lit (.int .i64 0)), .c (.lit (.int .i64 0))], none⟩])
 (.seq (.reg [⟨some 4, .build [.c (.lit (.slice none 0 0)), .c (.lit (.slice none 0 0)), .c (.lit (.slice none 0 0)), .c (.lit (.int .i64 0)), .c (.lit (.int .i64 0)), .c (.lit (.int .i64 0)), .c (.lit (.int .i64 0)), .c (.lit (.int .i64 0)), .c (.lit (.int .i64 0)), .c (.lit (.int .i64 0)), .c (.lit (.int .i64 0)), .c (.lit (.int .i64 0)), .c (.lit (.int .i64 0)), .c (.lit (.int .i64 0)), .c (.lit (.int .i64 0)), .c (.lit (.int .i64 0)), .c (.lit (.int .i64 0)), .c (.lit (.int .i64 0))] [(3, 1, (.k (.c (.lit (.int .i64 3))))), (8, 1, (.k (.c (.lit (.int .i64 4))))), (9, 1, (.k (.c (.lit (.int .i64 1))))), (10, 1, (.k (.c (.lit (.int .i64 12))))), (11, 1, (.k (.c (.lit (.int .i64 100))))), (12, 1, (.k (.c (.lit (.int .i64 50))))), (13, 1, (.k (.c (.lit (.int .i64 5))))), (14, 1, (.k (.c (.lit (.int .i64 4))))), (15, 1, (.k (.c (.lit (.int .i64 3))))), (16, 1, (.k (.c (.lit (.int .i64 6))))), (17, 1, (.k (.c (.lit (.int .i64 4)))))], none⟩,
  ⟨some 1, .alloc [.c (.lit (.slice none 0 0)), .c (.lit (.slice none 0 0)), .c (.lit (.slice none 0 0)), .c (.lit (.int .i64 0)), .c (.lit (.int .i64 0)), .c (.lit (.int .i64 0)), .c (.lit (.int .i64 0)), .c (.lit (.int .i64 0)), .c (.lit (.int .i64 0)), .c (.lit (.int .i64 0)), .c (.lit (.int .i64 0)), .c (.lit (.int .i64 0)), .c (.lit (.int .i64 0)), .c (.lit (.int .i64 0)), .c (.lit (.int .i64 0)), .c (.lit (.int .i64 0)), .c (.lit (.int .i64 0)), .c (.lit (.int .i64 0))], none⟩,
  ⟨none, .store 18 (.t 1) (.t 4), none⟩])
 (.seq (.reg [⟨some 5, .build [.c (.lit (.int .i64 0)), .c (.lit (.int .i64 0)), .c (.lit (.int .i64 0)), .c (.lit (.int .i64 0))] [(0, 1, (.k (.c (.lit (.int .i64 4))))), (1, 1, (.k (.c (.lit (.int .i64 8))))), (3, 1, (.k (.c (.lit (.int .i64 1)))))], none⟩,
  ⟨some 6, .build [.c (.lit (.int .i64 0)), .c (.lit (.int .i64 0)), .c (.lit (.int .i64 0)), .c (.lit (.int .i64 0))] [(0, 1, (.k (.c (.lit (.int .i64 8))))), (1, 1, (.k (.c (.lit (.int .i64 8))))), (2, 1, (.k (.c (.lit (.int .i64 1)))))], none⟩,
  ⟨some 7, .bslice 4 2 [.c (.lit (.int .i64 0)), .c (.lit (.int .i64 0)), .c (.lit (.int .i64 0)), .c (.lit (.int .i64 0))] [(0, 4, (.t 5)), (4, 4, (.t 6))], none⟩,
  ⟨some 8, .fld 0 (.t 1), none⟩,
  ⟨none, .store 1 (.t 8) (.t 7), none⟩])
 (.seq (.reg [⟨some 9, .bslice 1 2 [.c (.lit (.int .i64 0))] [(0, 1, (.k (.c (.lit (.int .i64 0))))), (1, 1, (.k (.c (.lit (.int .i64 1)))))], none⟩,
  ⟨some 10, .bslice 1 1 [.c (.lit (.int .i64 0))] [(0, 1, (.k (.c (.lit (.int .i64 1)))))], none⟩,
  ⟨some 11, .bslice 1 2 [.c (.lit (.slice none 0 0))] [(0, 1, (.t 9)), (1, 1, (.t 10))], none⟩,
  ⟨some 12, .fld 1 (.t 1), none⟩,
  ⟨none, .store 1 (.t 12) (.t 11), none⟩])
 (.seq (.reg [⟨some 13, .build [.c (.lit (.int .i64 0)), .c (.lit (.slice none 0 0)), .c (.lit (.int .i64 0)), .c (.lit (.int .i64 0)), .c (.lit (.int .i64 0)), .c (.lit (.int .i64 0))] [(2, 1, (.k (.c (.lit (.int .i64 8))))), (3, 1, (.k (.c (.lit (.int .i64 4))))), (4, 1, (.k (.c (.lit (.int .i64 3))))), (5, 1, (.k (.c (.lit (.int .i64 1)))))], none⟩,
  ⟨some 2, .alloc [.c (.lit (.int .i64 0)), .c (.lit (.slice none 0 0)), .c (.lit (.int .i64 0)), .c (.lit (.int .i64 0)), .c (.lit (.int .i64 0)), .c (.lit (.int .i64 0))], none⟩,
  ⟨none, .store 6 (.t 2) (.t 13), none⟩])
 (.seq (.reg [⟨some 14, .bslice 1 2 [.c (.lit (.int .i64 0))] [(0, 1, (.k (.c (.lit (.int .i64 0))))), (1, 1, (.k (.c (.lit (.int .i64 1)))))], none⟩,
  ⟨some 15, .build [.c (.lit (.int .i64 0)), .c (.lit (.slice none 0 0)), .c (.lit (.int .i64 0)), .c (.lit (.int .i64 0)), .c (.lit (.int .i64 0)), .c (.lit (.int .i64 0))] [(0, 1, (.k (.c (.lit (.int .i64 1))))), (1, 1, (.t 14)), (2, 1, (.k (.c (.lit (.int .i64 4))))), (3, 1, (.k (.c (.lit (.int .i64 2))))), (4, 1, (.k (.c (.lit (.int .i64 2))))), (5, 1, (.k (.c (.lit (.int .i64 5)))))], none⟩,
  ⟨some 3, .alloc [.c (.lit (.int .i64 0)), .c (.lit (.slice none 0 0)), .c (.lit (.int .i64 0)), .c (.lit (.int .i64 0)), .c (.lit (.int .i64 0)), .c (.lit (.int .i64 0))], none⟩,
  ⟨none, .store 6 (.t 3) (.t 15), none⟩])
 (.seq (.reg [⟨some 16, .load (some 6) (.t 2), none⟩,
  ⟨some 17, .load (some 6) (.t 3), none⟩,
  ⟨some 18, .bslice 6 2 [.c (.lit (.int .i64 0)), .c (.lit (.slice none 0 0)), .c (.lit (.int .i64 0)), .c (.lit (.int .i64 0)), .c (.lit (.int .i64 0)), .c (.lit (.int .i64 0))] [(0, 6, (.t 16)), (6, 6, (.t 17))], none⟩,
  ⟨some 19, .fld 2 (.t 1), none⟩,
  ⟨none, .store 1 (.t 19) (.t 18), none⟩])
 (.seq (.reg [⟨some 20, .build [.c (.lit (.int .i64 0)), .c (.lit (.int .i64 0)), .c (.lit (.int .i64 0)), .c (.lit (.int .i64 0))] [(0, 1, (.k (.c (.lit (.int .i64 1))))), (1, 1, (.k (.c (.lit (.int .i64 2))))), (2, 1, (.k (.c (.lit (.int .i64 10))))), (3, 1, (.k (.c (.lit (.int .i64 3)))))], none⟩,
  ⟨some 21, .fld 4 (.t 1), none⟩,
  ⟨none, .store 4 (.t 21) (.t 20), none⟩])
 (.seq (.reg [⟨some 22, .load (some 18) (.t 1), none⟩,
  ⟨none, .store 18 (.t 0) (.t 22), none⟩])
 (.ret))))))))), true⟩
theorem C26 : compF Tryz.prog Tryz.f26 true = some A26 := by kernel_rfl

/- drayage/submit.checks -/
def A27 : AFunc := ⟨0, 9, [(0, none)], .seq (.reg [⟨some 0, .mov (.k (.c (.lit (.slice none 0 0)))), none⟩])
 (.seq (.reg [⟨some 1, .build [.c (.lit .nilFunc)] [(0, 1, (.k (.c (.fn (.func 68) [] []))))], none⟩,
  ⟨some 2, .build [.c (.lit .nilFunc)] [(0, 1, (.k (.c (.fn (.func 69) [] []))))], none⟩,
  ⟨some 3, .build [.c (.lit .nilFunc)] [(0, 1, (.k (.c (.fn (.func 70) [] []))))], none⟩,
  ⟨some 4, .build [.c (.lit .nilFunc)] [(0, 1, (.k (.c (.fn (.func 72) [] []))))], none⟩,
  ⟨some 5, .build [.c (.lit .nilFunc)] [(0, 1, (.k (.c (.fn (.func 73) [] []))))], none⟩,
  ⟨some 6, .build [.c (.lit .nilFunc)] [(0, 1, (.k (.c (.fn (.func 74) [] []))))], none⟩,
  ⟨some 7, .build [.c (.lit .nilFunc)] [(0, 1, (.k (.c (.fn (.func 75) [] []))))], none⟩,
  ⟨some 8, .bslice 1 7 [.c (.lit .nilFunc)] [(0, 1, (.t 1)), (1, 1, (.t 2)), (2, 1, (.t 3)), (3, 1, (.t 4)), (4, 1, (.t 5)), (5, 1, (.t 6)), (6, 1, (.t 7))], none⟩,
  ⟨some 0, .mov (.t 8), none⟩])
 (.ret)), true⟩
theorem C27 : compF Tryz.prog Tryz.f27 true = some A27 := by kernel_rfl

/- drayage/drayageref01.Ints -/
def A28_l0 : ACode := .seq (.seq (.reg [⟨some 11, .mov (.t 5), none⟩,
  ⟨some 12, .mov (.t 0), none⟩,
  ⟨some 13, .len (.t 12), none⟩,
  ⟨some 14, .gen (.binOp .lss 3 (.tmp 11) (.tmp 13) 3) 4, none⟩])
 (.cond (.t 14) (.skip) (.exit 0)))
 (.seq (.block 1 (.seq (.drw [⟨some 17, .mov (.t 0), none⟩,
  ⟨some 18, .mov (.t 5), none⟩,
  ⟨some 19, .idx 1 none (.t 17) (.t 18), none⟩,
  ⟨some 20, .load none (.t 19), none⟩,
  ⟨some 21, .mov (.t 1), none⟩,
  ⟨some 22, .mov (.t 5), none⟩,
  ⟨some 23, .idx 1 none (.t 21) (.t 22), none⟩,
  ⟨some 24, .load none (.t 23), none⟩,
  ⟨some 25, .gen (.binOp .neq 3 (.tmp 20) (.tmp 24) 3) 4, none⟩] [0, 0, 3, 7, 0, 0, 48, 112, 255] 9 2)
 (.cond (.t 25) (.seq (.reg [⟨some 4, .mov (.k (.c (.lit (.bool false)))), none⟩])
 (.ret)) (.skip))))
 (.reg [⟨some 15, .mov (.t 5), none⟩,
  ⟨some 16, .gen (.binOp .add 3 (.tmp 15) (.const (.int .i64 1)) 3) 3, none⟩,
  ⟨some 5, .mov (.t 16), none⟩]))
def A28 : AFunc := ⟨2, 26, [(4, none)], .seq (.reg [⟨some 4, .mov (.k (.c (.lit (.bool false)))), none⟩])
 (.seq (.seq (.reg [⟨some 6, .mov (.t 0), none⟩,
  ⟨some 7, .len (.t 6), none⟩,
  ⟨some 8, .mov (.t 1), none⟩,
  ⟨some 9, .len (.t 8), none⟩,
  ⟨some 10, .gen (.binOp .neq 3 (.tmp 7) (.tmp 9) 3) 4, none⟩])
 (.cond (.t 10) (.seq (.reg [⟨some 4, .mov (.k (.c (.lit (.bool false)))), none⟩])
 (.ret)) (.skip)))
 (.seq (.seq (.reg [⟨some 5, .mov (.k (.c (.lit (.int .i64 0)))), none⟩])
 (.block 0 (.loop A28_l0)))
 (.seq (.reg [⟨some 4, .mov (.k (.c (.lit (.bool true)))), none⟩])
 (.ret)))), true⟩
theorem C28 : compF Tryz.prog Tryz.f28 true = some A28 := by kernel_rfl

/- drayage/reply.Refusal -/
def A29 : AFunc := ⟨2, 8, [(4, some (some 5))], .seq (.reg [⟨some 4, .alloc [.c (.lit (.int .i64 0)), .c (.lit (.int .i64 0)), .c (.lit (.int .i64 0)), .c (.lit (.int .i64 0)), .c (.lit (.slice none 0 0))], none⟩])
 (.seq (.reg [⟨some 5, .mov (.t 0), none⟩,
  ⟨some 6, .mov (.t 1), none⟩,
  ⟨some 7, .build [.c (.lit (.int .i64 0)), .c (.lit (.int .i64 0)), .c (.lit (.int .i64 0)), .c (.lit (.int .i64 0)), .c (.lit (.slice none 0 0))] [(0, 1, (.t 5)), (1, 1, (.t 6))], none⟩,
  ⟨none, .store 5 (.t 4) (.t 7), none⟩])
 (.ret)), true⟩
theorem C29 : compF Tryz.prog Tryz.f29 true = some A29 := by kernel_rfl

/- drayage/job.New -/
def A30 : AFunc := ⟨4, 34, [(8, some (some 18)), (9, none)], .seq (.reg [⟨some 7, .box (.t 3), none⟩,
  ⟨some 8, .alloc [.c (.lit (.int .i64 0)), .c (.lit (.int .i64 0)), .c (.lit (.int .i64 0)), .c (.lit (.int .i64 0)), .c (.lit (.int .i64 0)), .c (.lit (.int .i64 0)), .c (.lit (.int .i64 0)), .c (.lit (.int .i64 0)), .c (.lit (.int .i64 0)), .c (.lit (.slice none 0 0)), .c (.lit (.int .i64 0)), .c (.lit (.bool false)), .c (.lit (.bool false)), .c (.lit (.int .i64 0)), .c (.lit (.int .i64 0)), .c (.lit (.int .i64 0)), .c (.lit (.int .i64 0)), .c (.lit (.int .i64 0))], none⟩,
  ⟨some 9, .mov (.k (.c (.lit (.int .i64 0)))), none⟩])
 (.seq (.reg [⟨some 11, .mov (.t 0), none⟩,
  ⟨some 12, .mov (.t 1), none⟩,
  ⟨some 13, .fld 4 (.t 7), none⟩,
  ⟨some 14, .load none (.t 13), none⟩,
  ⟨some 15, .fld 5 (.t 7), none⟩,
  ⟨some 16, .load none (.t 15), none⟩,
  ⟨some 17, .fld 6 (.t 7), none⟩,
  ⟨some 18, .load (some 4) (.t 17), none⟩,
  ⟨some 19, .fld 10 (.t 7), none⟩,
  ⟨some 20, .load none (.t 19), none⟩,
  ⟨some 21, .fld 12 (.t 7), none⟩,
  ⟨some 22, .load none (.t 21), none⟩,
  ⟨some 23, .mov (.t 2), none⟩,
  ⟨some 24, .build [.c (.lit (.int .i64 0)), .c (.lit (.int .i64 0)), .c (.lit (.int .i64 0)), .c (.lit (.int .i64 0)), .c (.lit (.int .i64 0)), .c (.lit (.int .i64 0)), .c (.lit (.int .i64 0)), .c (.lit (.int .i64 0)), .c (.lit (.int .i64 0)), .c (.lit (.slice none 0 0)), .c (.lit (.int .i64 0)), .c (.lit (.bool false)), .c (.lit (.bool false)), .c (.lit (.int .i64 0)), .c (.lit (.int .i64 0)), .c (.lit (.int .i64 0)), .c (.lit (.int .i64 0)), .c (.lit (.int .i64 0))] [(0, 1, (.t 11)), (1, 1, (.t 12)), (2, 1, (.t 14)), (3, 1, (.t 16)), (4, 4, (.t 18)), (8, 1, (.t 20)), (9, 1, (.t 22)), (10, 1, (.k (.c (.lit (.int .i64 1))))), (13, 1, (.k (.c (.lit (.int .i64 1))))), (14, 1, (.t 23))], none⟩,
  ⟨some 10, .alloc [.c (.lit (.int .i64 0)), .c (.lit (.int .i64 0)), .c (.lit (.int .i64 0)), .c (.lit (.int .i64 0)), .c (.lit (.int .i64 0)), .c (.lit (.int .i64 0)), .c (.lit (.int .i64 0)), .c (.lit (.int .i64 0)), .c (.lit (.int .i64 0)), .c (.lit (.slice none 0 0)), .c (.lit (.int .i64 0)), .c (.lit (.bool false)), .c (.lit (.bool false)), .c (.lit (.int .i64 0)), .c (.lit (.int .i64 0)), .c (.lit (.int .i64 0)), .c (.lit (.int .i64 0)), .c (.lit (.int .i64 0))], none⟩,
  ⟨none, .store 18 (.t 10) (.t 24), none⟩])
 (.seq (.seq (.reg [⟨some 25, .load (some 18) (.t 10), none⟩,
  ⟨some 26, .call (.k (.c (.fn (.func 36) [] []))) [(.t 25)], none⟩,
  ⟨some 27, .gen (.unOp .not 4 (.tmp 26)) 4, none⟩])
 (.cond (.t 27) (.seq (.reg [⟨some 28, .build [.c (.lit (.int .i64 0)), .c (.lit (.int .i64 0)), .c (.lit (.int .i64 0)), .c (.lit (.int .i64 0)), .c (.lit (.int .i64 0)), .c (.lit (.int .i64 0)), .c (.lit (.int .i64 0)), .c (.lit (.int .i64 0)), .c (.lit (.int .i64 0)), .c (.lit (.slice none 0 0)), .c (.lit (.int .i64 0)), .c (.lit (.bool false)), .c (.lit (.bool false)), .c (.lit (.int .i64 0)), .c (.lit (.int .i64 0)), .c (.lit (.int .i64 0)), .c (.lit (.int .i64 0)), .c (.lit (.int .i64 0))] [], none⟩,
  ⟨none, .store 18 (.t 8) (.t 28), none⟩,
  ⟨some 9, .mov (.k (.c (.lit (.int .i64 2)))), none⟩])
 (.ret)) (.skip)))
 (.seq (.reg [⟨some 29, .fld 12 (.t 7), none⟩,
  ⟨some 30, .load none (.t 29), none⟩,
  ⟨some 31, .call (.k (.c (.fn (.func 76) [] []))) [(.t 30)], none⟩,
  ⟨some 32, .fld 9 (.t 10), none⟩,
  ⟨none, .store 1 (.t 32) (.t 31), none⟩])
 (.seq (.reg [⟨some 33, .load (some 18) (.t 10), none⟩,
  ⟨none, .store 18 (.t 8) (.t 33), none⟩,
  ⟨some 9, .mov (.k (.c (.lit (.int .i64 0)))), none⟩])
 (.ret))))), true⟩
theorem C30 : compF Tryz.prog Tryz.f30 true = some A30 := by kernel_rfl

/- drayage/job.Right -/
def A36 : AFunc := ⟨1, 72, [(2, none)], .seq (.reg [⟨some 1, .box (.t 0), none⟩,
  ⟨some 2, .mov (.k (.c (.lit (.bool false)))), none⟩])
 (.seq (.reg [⟨some 3, .fld 0 (.t 1), none⟩,
  ⟨some 4, .load none (.t 3), none⟩,
  ⟨some 5, .call (.k (.c (.fn (.func 89) [] []))) [(.t 4), (.k (.c (.lit (.int .i64 1)))), (.k (.c (.lit (.int .i64 1048576))))], none⟩,
  ⟨some 6, .mov (.t 5), none⟩,
  ⟨some 7, .fld 1 (.t 1), some (6, true)⟩,
  ⟨some 8, .load none (.t 7), some (6, true)⟩,
  ⟨some 9, .call (.k (.c (.fn (.func 89) [] []))) [(.t 8), (.k (.c (.lit (.int .i64 0)))), (.k (.c (.lit (.int .i64 7))))], some (6, true)⟩,
  ⟨some 10, .pick (.t 6) (.t 9) (.k (.c (.lit (.bool false)))), none⟩,
  ⟨some 11, .mov (.t 10), none⟩,
  ⟨some 12, .fld 2 (.t 1), some (11, true)⟩,
  ⟨some 13, .load none (.t 12), some (11, true)⟩,
  ⟨some 14, .call (.k (.c (.fn (.func 89) [] []))) [(.t 13), (.k (.c (.lit (.int .i64 0)))), (.k (.c (.lit (.int .i64 7))))], some (11, true)⟩,
  ⟨some 15, .pick (.t 11) (.t 14) (.k (.c (.lit (.bool false)))), none⟩,
  ⟨some 16, .mov (.t 15), none⟩,
  ⟨some 17, .fld 3 (.t 1), some (16, true)⟩,
  ⟨some 18, .load none (.t 17), some (16, true)⟩,
  ⟨some 19, .call (.k (.c (.fn (.func 89) [] []))) [(.t 18), (.k (.c (.lit (.int .i64 1)))), (.k (.c (.lit (.int .i64 64))))], some (16, true)⟩,
  ⟨some 20, .pick (.t 16) (.t 19) (.k (.c (.lit (.bool false)))), none⟩,
  ⟨some 21, .mov (.t 20), none⟩,
  ⟨some 22, .fld 4 (.t 1), some (21, true)⟩,
  ⟨some 23, .load (some 4) (.t 22), some (21, true)⟩,
  ⟨some 24, .call (.k (.c (.fn (.func 90) [] []))) [(.t 23)], some (21, true)⟩,
  ⟨some 25, .pick (.t 21) (.t 24) (.k (.c (.lit (.bool false)))), none⟩,
  ⟨some 26, .mov (.t 25), none⟩,
  ⟨some 27, .fld 4 (.t 1), some (26, true)⟩,
  ⟨some 28, .load (some 4) (.t 27), some (26, true)⟩,
  ⟨some 29, .build [.c (.lit (.int .i64 0)), .c (.lit (.int .i64 0)), .c (.lit (.int .i64 0)), .c (.lit (.int .i64 0))] [], some (26, true)⟩,
  ⟨some 30, .gen (.binOp .neq 23 (.tmp 28) (.tmp 29) 23) 4, some (26, true)⟩,
  ⟨some 31, .pick (.t 26) (.t 30) (.k (.c (.lit (.bool false)))), none⟩,
  ⟨some 32, .mov (.t 31), none⟩,
  ⟨some 33, .fld 8 (.t 1), some (32, true)⟩,
  ⟨some 34, .load none (.t 33), some (32, true)⟩,
  ⟨some 35, .call (.k (.c (.fn (.func 89) [] []))) [(.t 34), (.k (.c (.lit (.int .i64 1)))), (.k (.c (.lit (.int .i64 65536))))], some (32, true)⟩,
  ⟨some 36, .pick (.t 32) (.t 35) (.k (.c (.lit (.bool false)))), none⟩,
  ⟨some 37, .mov (.t 36), none⟩,
  ⟨some 38, .load (some 18) (.t 1), some (37, true)⟩,
  ⟨some 39, .call (.k (.c (.fn (.func 91) [] []))) [(.t 38)], some (37, true)⟩,
  ⟨some 40, .pick (.t 37) (.t 39) (.k (.c (.lit (.bool false)))), none⟩,
  ⟨some 41, .mov (.t 40), none⟩,
  ⟨some 42, .fld 13 (.t 1), some (41, true)⟩,
  ⟨some 43, .load none (.t 42), some (41, true)⟩,
  ⟨some 44, .call (.k (.c (.fn (.func 89) [] []))) [(.t 43), (.k (.c (.lit (.int .i64 1)))), (.k (.c (.lit (.int .i64 281474976710656))))], some (41, true)⟩,
  ⟨some 45, .pick (.t 41) (.t 44) (.k (.c (.lit (.bool false)))), none⟩,
  ⟨some 46, .mov (.t 45), none⟩,
  ⟨some 47, .fld 14 (.t 1), some (46, true)⟩,
  ⟨some 48, .load none (.t 47), some (46, true)⟩,
  ⟨some 49, .call (.k (.c (.fn (.func 89) [] []))) [(.t 48), (.k (.c (.lit (.int .i64 0)))), (.k (.c (.lit (.int .i64 1099511627776))))], some (46, true)⟩,
  ⟨some 50, .pick (.t 46) (.t 49) (.k (.c (.lit (.bool false)))), none⟩,
  ⟨some 51, .mov (.t 50), none⟩,
  ⟨some 52, .fld 15 (.t 1), some (51, true)⟩,
  ⟨some 53, .load none (.t 52), some (51, true)⟩,
  ⟨some 54, .call (.k (.c (.fn (.func 89) [] []))) [(.t 53), (.k (.c (.lit (.int .i64 0)))), (.k (.c (.lit (.int .i64 1099511627776))))], some (51, true)⟩,
  ⟨some 55, .pick (.t 51) (.t 54) (.k (.c (.lit (.bool false)))), none⟩,
  ⟨some 56, .mov (.t 55), none⟩,
  ⟨some 57, .fld 16 (.t 1), some (56, true)⟩,
  ⟨some 58, .load none (.t 57), some (56, true)⟩,
  ⟨some 59, .call (.k (.c (.fn (.func 89) [] []))) [(.t 58), (.k (.c (.lit (.int .i64 0)))), (.k (.c (.lit (.int .i64 1099511627776))))], some (56, true)⟩,
  ⟨some 60, .pick (.t 56) (.t 59) (.k (.c (.lit (.bool false)))), none⟩,
  ⟨some 61, .mov (.t 60), none⟩,
  ⟨some 62, .fld 17 (.t 1), some (61, true)⟩,
  ⟨some 63, .load none (.t 62), some (61, true)⟩,
  ⟨some 64, .fld 0 (.t 1), some (61, true)⟩,
  ⟨some 65, .load none (.t 64), some (61, true)⟩,
  ⟨some 66, .call (.k (.c (.fn (.func 89) [] []))) [(.t 63), (.k (.c (.lit (.int .i64 0)))), (.t 65)], some (61, true)⟩,
  ⟨some 67, .pick (.t 61) (.t 66) (.k (.c (.lit (.bool false)))), none⟩,
  ⟨some 68, .mov (.t 67), none⟩,
  ⟨some 69, .load (some 18) (.t 1), some (68, true)⟩,
  ⟨some 70, .call (.k (.c (.fn (.func 92) [] []))) [(.t 69)], some (68, true)⟩,
  ⟨some 71, .pick (.t 68) (.t 70) (.k (.c (.lit (.bool false)))), none⟩,
  ⟨some 2, .mov (.t 71), none⟩])
 (.ret)), true⟩
theorem C36 : compF Tryz.prog Tryz.f36 true = some A36 := by kernel_rfl

/- (*drayage/table.Table).Put -/
def A37 : AFunc := ⟨2, 42, [(4, none)], .seq (.reg [⟨some 3, .box (.t 1), none⟩,
  ⟨some 4, .mov (.k (.c (.lit (.int .i64 0)))), none⟩])
 (.seq (.seq (.reg [⟨some 7, .mov (.t 0), none⟩,
  ⟨some 8, .isnil 0 false (.t 7), none⟩])
 (.cond (.t 8) (.seq (.reg [⟨some 4, .mov (.k (.c (.lit (.int .i64 1)))), none⟩])
 (.ret)) (.skip)))
 (.seq (.seq (.reg [⟨some 9, .load (some 18) (.t 3), none⟩,
  ⟨some 10, .call (.k (.c (.fn (.func 36) [] []))) [(.t 9)], none⟩,
  ⟨some 11, .gen (.unOp .not 4 (.tmp 10)) 4, none⟩])
 (.cond (.t 11) (.seq (.reg [⟨some 4, .mov (.k (.c (.lit (.int .i64 2)))), none⟩])
 (.ret)) (.skip)))
 (.seq (.reg [⟨some 13, .mov (.t 0), none⟩,
  ⟨some 14, .fld 0 (.t 3), none⟩,
  ⟨some 15, .load none (.t 14), none⟩,
  ⟨some 16, .call (.k (.c (.fn (.func 87) [] []))) [(.t 13), (.t 15)], none⟩,
  ⟨some 12, .mov (.t 16), none⟩,
  ⟨some 17, .extract (.t 12) 0, none⟩,
  ⟨some 18, .extract (.t 12) 1, none⟩,
  ⟨some 5, .mov (.t 17), none⟩,
  ⟨some 6, .mov (.t 18), none⟩])
 (.seq (.seq (.reg [⟨some 19, .mov (.t 6), none⟩])
 (.cond (.t 19) (.seq (.reg [⟨some 4, .mov (.k (.c (.lit (.int .i64 31)))), none⟩])
 (.ret)) (.skip)))
 (.seq (.seq (.drw [⟨some 20, .mov (.t 0), none⟩,
  ⟨some 21, .nilck (.t 20), none⟩,
  ⟨some 22, .fld 1 (.t 21), none⟩,
  ⟨some 23, .load none (.t 22), none⟩,
  ⟨some 24, .len (.t 23), none⟩,
  ⟨some 25, .mov (.t 0), none⟩,
  ⟨some 26, .nilck (.t 25), none⟩,
  ⟨some 27, .fld 0 (.t 26), none⟩,
  ⟨some 28, .load none (.t 27), none⟩,
  ⟨some 29, .gen (.binOp .eql 3 (.tmp 24) (.tmp 28) 3) 4, none⟩] [0, 1, 3, 7, 15, 0, 32, 96, 224, 511] 10 1)
 (.cond (.t 29) (.seq (.reg [⟨some 4, .mov (.k (.c (.lit (.int .i64 35)))), none⟩])
 (.ret)) (.skip)))
 (.seq (.drw [⟨some 30, .mov (.t 0), none⟩,
  ⟨some 31, .mov (.t 0), none⟩,
  ⟨some 32, .nilck (.t 31), none⟩,
  ⟨some 33, .fld 1 (.t 32), none⟩,
  ⟨some 34, .load none (.t 33), none⟩,
  ⟨some 35, .mov (.t 5), none⟩,
  ⟨some 36, .load (some 18) (.t 3), none⟩,
  ⟨some 37, .call (.k (.c (.fn (.func 88) [] []))) [(.t 36)], none⟩,
  ⟨some 38, .bslice 18 1 [.c (.lit (.int .i64 0)), .c (.lit (.int .i64 0)), .c (.lit (.int .i64 0)), .c (.lit (.int .i64 0)), .c (.lit (.int .i64 0)), .c (.lit (.int .i64 0)), .c (.lit (.int .i64 0)), .c (.lit (.int .i64 0)), .c (.lit (.int .i64 0)), .c (.lit (.slice none 0 0)), .c (.lit (.int .i64 0)), .c (.lit (.bool false)), .c (.lit (.bool false)), .c (.lit (.int .i64 0)), .c (.lit (.int .i64 0)), .c (.lit (.int .i64 0)), .c (.lit (.int .i64 0)), .c (.lit (.int .i64 0))] [(0, 18, (.t 37))], none⟩,
  ⟨some 39, .call (.k (.c (.fn (.func 93) [] []))) [(.t 34), (.t 35), (.t 38)], none⟩,
  ⟨some 40, .nilck (.t 30), none⟩,
  ⟨some 41, .fld 1 (.t 40), none⟩,
  ⟨none, .store 1 (.t 41) (.t 39), none⟩] [0, 0, 2, 6, 14, 0, 0, 64, 192, 510, 1023, 2047, 4095] 13 2)
 (.seq (.reg [⟨some 4, .mov (.k (.c (.lit (.int .i64 0)))), none⟩])
 (.ret)))))))), true⟩
theorem C37 : compF Tryz.prog Tryz.f37 true = some A37 := by kernel_rfl

/- (*drayage/store.Store).stamp -/
def A38 : AFunc := ⟨2, 32, [], .seq (.reg [⟨some 4, .mov (.t 1), none⟩,
  ⟨some 5, .gen (.binOp .geq 3 (.tmp 4) (.const (.int .i64 0)) 3) 4, none⟩,
  ⟨some 6, .mov (.t 5), none⟩,
  ⟨some 7, .mov (.t 1), some (6, true)⟩,
  ⟨some 8, .mov (.t 0), some (6, true)⟩,
  ⟨some 9, .nilck (.t 8), some (6, true)⟩,
  ⟨some 10, .fld 25 (.t 9), some (6, true)⟩,
  ⟨some 11, .fld 0 (.t 10), some (6, true)⟩,
  ⟨some 12, .load none (.t 11), some (6, true)⟩,
  ⟨some 13, .len (.t 12), some (6, true)⟩,
  ⟨some 14, .gen (.binOp .lss 3 (.tmp 7) (.tmp 13) 3) 4, some (6, true)⟩,
  ⟨some 15, .pick (.t 6) (.t 14) (.k (.c (.lit (.bool false)))), none⟩])
 (.cond (.t 15) (.drw [⟨some 16, .mov (.t 0), none⟩,
  ⟨some 17, .nilck (.t 16), none⟩,
  ⟨some 18, .fld 25 (.t 17), none⟩,
  ⟨some 19, .fld 0 (.t 18), none⟩,
  ⟨some 20, .load none (.t 19), none⟩,
  ⟨some 21, .mov (.t 1), none⟩,
  ⟨some 22, .mov (.t 0), none⟩,
  ⟨some 23, .nilck (.t 22), none⟩,
  ⟨some 24, .fld 25 (.t 23), none⟩,
  ⟨some 25, .fld 0 (.t 24), none⟩,
  ⟨some 26, .load none (.t 25), none⟩,
  ⟨some 27, .mov (.t 1), none⟩,
  ⟨some 28, .idx 1 none (.t 26) (.t 27), none⟩,
  ⟨some 29, .load none (.t 28), none⟩,
  ⟨some 30, .call (.k (.c (.fn (.func 44) [] []))) [(.t 29)], none⟩,
  ⟨some 31, .idx 1 none (.t 20) (.t 21), none⟩,
  ⟨none, .store 1 (.t 31) (.t 30), none⟩] [0, 1, 3, 7, 15, 0, 0, 64, 192, 448, 960, 0, 4032, 8128, 16320, 32767, 65535] 17 1) (.skip)), true⟩
theorem C38 : compF Tryz.prog Tryz.f38 true = some A38 := by kernel_rfl

/- drayage/life.Waits -/
def A39 : AFunc := ⟨1, 9, [(2, none)], .seq (.reg [⟨some 2, .mov (.k (.c (.lit (.bool false)))), none⟩])
 (.seq (.reg [⟨some 3, .mov (.t 0), none⟩,
  ⟨some 4, .gen (.binOp .eql 3 (.tmp 3) (.const (.int .i64 1)) 3) 4, none⟩,
  ⟨some 5, .mov (.t 4), none⟩,
  ⟨some 6, .mov (.t 0), some (5, false)⟩,
  ⟨some 7, .gen (.binOp .eql 3 (.tmp 6) (.const (.int .i64 2)) 3) 4, some (5, false)⟩,
  ⟨some 8, .pick (.t 5) (.k (.c (.lit (.bool true)))) (.t 7), none⟩,
  ⟨some 2, .mov (.t 8), none⟩])
 (.ret)), true⟩
theorem C39 : compF Tryz.prog Tryz.f39 true = some A39 := by kernel_rfl

/- drayage/store.after -/
def A44 : AFunc := ⟨1, 7, [(2, none)], .seq (.reg [⟨some 2, .mov (.k (.c (.lit (.int .i64 0)))), none⟩])
 (.seq (.seq (.reg [⟨some 3, .mov (.t 0), none⟩,
  ⟨some 4, .gen (.binOp .geq 3 (.tmp 3) (.const (.int .i64 281474976710656)) 3) 4, none⟩])
 (.cond (.t 4) (.seq (.reg [⟨some 2, .mov (.k (.c (.lit (.int .i64 0)))), none⟩])
 (.ret)) (.skip)))
 (.seq (.reg [⟨some 5, .mov (.t 0), none⟩,
  ⟨some 6, .gen (.binOp .add 3 (.tmp 5) (.const (.int .i64 1)) 3) 3, none⟩,
  ⟨some 2, .mov (.t 6), none⟩])
 (.ret))), true⟩
theorem C44 : compF Tryz.prog Tryz.f44 true = some A44 := by kernel_rfl

/- drayage/life.Over -/
def A47 : AFunc := ⟨1, 9, [(2, none)], .seq (.reg [⟨some 2, .mov (.k (.c (.lit (.bool false)))), none⟩])
 (.seq (.reg [⟨some 3, .mov (.t 0), none⟩,
  ⟨some 4, .gen (.binOp .eql 3 (.tmp 3) (.const (.int .i64 5)) 3) 4, none⟩,
  ⟨some 5, .mov (.t 4), none⟩,
  ⟨some 6, .mov (.t 0), some (5, false)⟩,
  ⟨some 7, .gen (.binOp .eql 3 (.tmp 6) (.const (.int .i64 6)) 3) 4, some (5, false)⟩,
  ⟨some 8, .pick (.t 5) (.k (.c (.lit (.bool true)))) (.t 7), none⟩,
  ⟨some 2, .mov (.t 8), none⟩])
 (.ret)), true⟩
theorem C47 : compF Tryz.prog Tryz.f47 true = some A47 := by kernel_rfl

/- (*drayage/table.Table).All -/
def A49_l0 : ACode := .seq (.reg [⟨some 16, .gen (.binOp .lss 3 (.tmp 15) (.tmp 14) 3) 0, none⟩])
 (.seq (.cond (.t 16) (.skip) (.exit 0))
 (.seq (.block 1 (.seq (.reg [⟨some 17, .mov (.t 15), none⟩,
  ⟨some 18, .idx 18 none (.t 13) (.t 15), none⟩,
  ⟨some 19, .load (some 18) (.t 18), none⟩,
  ⟨some 5, .alloc [.c (.lit (.int .i64 0)), .c (.lit (.int .i64 0)), .c (.lit (.int .i64 0)), .c (.lit (.int .i64 0)), .c (.lit (.int .i64 0)), .c (.lit (.int .i64 0)), .c (.lit (.int .i64 0)), .c (.lit (.int .i64 0)), .c (.lit (.int .i64 0)), .c (.lit (.slice none 0 0)), .c (.lit (.int .i64 0)), .c (.lit (.bool false)), .c (.lit (.bool false)), .c (.lit (.int .i64 0)), .c (.lit (.int .i64 0)), .c (.lit (.int .i64 0)), .c (.lit (.int .i64 0)), .c (.lit (.int .i64 0))], none⟩,
  ⟨some 4, .mov (.t 17), none⟩,
  ⟨none, .store 18 (.t 5) (.t 19), none⟩])
 (.reg [⟨some 20, .mov (.t 3), none⟩,
  ⟨some 21, .mov (.t 4), none⟩,
  ⟨some 22, .load (some 18) (.t 5), none⟩,
  ⟨some 23, .call (.k (.c (.fn (.func 88) [] []))) [(.t 22)], none⟩,
  ⟨some 24, .idx 18 none (.t 20) (.t 21), none⟩,
  ⟨none, .store 18 (.t 24) (.t 23), none⟩])))
 (.reg [⟨some 25, .gen (.binOp .add 3 (.tmp 15) (.const (.int .i64 1)) 3) 3, none⟩,
  ⟨some 15, .mov (.t 25), none⟩])))
def A49 : AFunc := ⟨1, 27, [(2, none)], .seq (.reg [⟨some 2, .mov (.k (.c (.lit (.slice none 0 0)))), none⟩])
 (.seq (.seq (.reg [⟨some 6, .mov (.t 0), none⟩,
  ⟨some 7, .isnil 0 false (.t 6), none⟩])
 (.cond (.t 7) (.seq (.reg [⟨some 2, .mov (.k (.c (.lit (.slice none 0 0)))), none⟩])
 (.ret)) (.skip)))
 (.seq (.reg [⟨some 8, .mov (.t 0), none⟩,
  ⟨some 9, .nilck (.t 8), none⟩,
  ⟨some 10, .fld 1 (.t 9), none⟩,
  ⟨some 11, .load none (.t 10), none⟩,
  ⟨some 12, .call (.k (.c (.fn (.func 103) [] []))) [(.t 11)], none⟩,
  ⟨some 3, .mov (.t 12), none⟩])
 (.seq (.seq (.reg [⟨some 13, .mov (.t 3), none⟩,
  ⟨some 14, .len (.t 13), none⟩,
  ⟨some 15, .mov (.k (.c (.lit (.int .i64 0)))), none⟩])
 (.block 0 (.loop A49_l0)))
 (.seq (.reg [⟨some 26, .mov (.t 3), none⟩,
  ⟨some 2, .mov (.t 26), none⟩])
 (.ret))))), true⟩
theorem C49 : compF Tryz.prog Tryz.f49 true = some A49 := by kernel_rfl

/- slices.Clone[[]int,int] -/
def A53 : AFunc := ⟨1, 8, [(2, none)], .seq (.reg [⟨some 2, .mov (.k (.c (.lit (.slice none 0 0)))), none⟩])
 (.seq (.seq (.reg [⟨some 3, .mov (.t 0), none⟩,
  ⟨some 4, .isnil 3 false (.t 3), none⟩])
 (.cond (.t 4) (.seq (.reg [⟨some 2, .mov (.k (.c (.lit (.slice none 0 0)))), none⟩])
 (.ret)) (.skip)))
 (.seq (.reg [⟨some 5, .bslice 1 0 [.c (.lit (.int .i64 0))] [], none⟩,
  ⟨some 6, .mov (.t 0), none⟩,
  ⟨some 7, .append 1 8 (.t 5) (.t 6), none⟩,
  ⟨some 2, .mov (.t 7), none⟩])
 (.ret))), true⟩
theorem C53 : compF Tryz.prog Tryz.f53 true = some A53 := by kernel_rfl

/- slices.Clone[[]drayage/api.Booking,drayage/api.Booking] -/
def A57 : AFunc := ⟨1, 8, [(2, none)], .seq (.reg [⟨some 2, .mov (.k (.c (.lit (.slice none 0 0)))), none⟩])
 (.seq (.seq (.reg [⟨some 3, .mov (.t 0), none⟩,
  ⟨some 4, .isnil 3 false (.t 3), none⟩])
 (.cond (.t 4) (.seq (.reg [⟨some 2, .mov (.k (.c (.lit (.slice none 0 0)))), none⟩])
 (.ret)) (.skip)))
 (.seq (.reg [⟨some 5, .bslice 4 0 [.c (.lit (.int .i64 0)), .c (.lit (.int .i64 0)), .c (.lit (.int .i64 0)), .c (.lit (.int .i64 0))] [], none⟩,
  ⟨some 6, .mov (.t 0), none⟩,
  ⟨some 7, .append 4 32 (.t 5) (.t 6), none⟩,
  ⟨some 2, .mov (.t 7), none⟩])
 (.ret))), true⟩
theorem C57 : compF Tryz.prog Tryz.f57 true = some A57 := by kernel_rfl

/- (*drayage/ledger.Ledger).All -/
def A62_l0 : ACode := .seq (.reg [⟨some 16, .gen (.binOp .lss 3 (.tmp 15) (.tmp 14) 3) 0, none⟩])
 (.seq (.cond (.t 16) (.skip) (.exit 0))
 (.seq (.block 1 (.seq (.reg [⟨some 17, .idx 1 none (.t 13) (.t 15), none⟩,
  ⟨some 18, .load none (.t 17), none⟩,
  ⟨some 5, .mov (.t 18), none⟩])
 (.reg [⟨some 19, .mov (.t 3), none⟩,
  ⟨some 20, .mov (.t 0), none⟩,
  ⟨some 21, .nilck (.t 20), none⟩,
  ⟨some 22, .fld 1 (.t 21), none⟩,
  ⟨some 23, .load none (.t 22), none⟩,
  ⟨some 24, .mov (.t 5), none⟩,
  ⟨some 25, .lookup (.int .i64) (.agg [.c (.lit (.int .i64 0)), .c (.lit (.int .i64 0)), .c (.lit (.int .i64 0)), .c (.lit (.int .i64 0)), .c (.lit (.int .i64 0)), .c (.lit (.slice none 0 0))]) (.t 23) (.t 24) false, none⟩,
  ⟨some 26, .call (.k (.c (.fn (.func 102) [] []))) [(.t 25)], none⟩,
  ⟨some 27, .bslice 6 1 [.c (.lit (.int .i64 0)), .c (.lit (.int .i64 0)), .c (.lit (.int .i64 0)), .c (.lit (.int .i64 0)), .c (.lit (.int .i64 0)), .c (.lit (.slice none 0 0))] [(0, 6, (.t 26))], none⟩,
  ⟨some 28, .append 6 64 (.t 19) (.t 27), none⟩,
  ⟨some 3, .mov (.t 28), none⟩])))
 (.reg [⟨some 29, .gen (.binOp .add 3 (.tmp 15) (.const (.int .i64 1)) 3) 3, none⟩,
  ⟨some 15, .mov (.t 29), none⟩])))
def A62 : AFunc := ⟨1, 31, [(2, none)], .seq (.reg [⟨some 2, .mov (.k (.c (.lit (.slice none 0 0)))), none⟩])
 (.seq (.seq (.reg [⟨some 6, .mov (.t 0), none⟩,
  ⟨some 7, .isnil 0 false (.t 6), none⟩])
 (.cond (.t 7) (.seq (.reg [⟨some 2, .mov (.k (.c (.lit (.slice none 0 0)))), none⟩])
 (.ret)) (.skip)))
 (.seq (.reg [⟨some 3, .mov (.k (.c (.lit (.slice none 0 0)))), none⟩])
 (.seq (.seq (.reg [⟨some 8, .mov (.t 0), none⟩,
  ⟨some 9, .nilck (.t 8), none⟩,
  ⟨some 10, .fld 1 (.t 9), none⟩,
  ⟨some 11, .load none (.t 10), none⟩,
  ⟨some 12, .call (.k (.c (.fn (.func 110) [] []))) [(.t 11)], none⟩,
  ⟨some 13, .call (.k (.c (.fn (.func 109) [] []))) [(.t 12)], none⟩,
  ⟨some 14, .len (.t 13), none⟩,
  ⟨some 15, .mov (.k (.c (.lit (.int .i64 0)))), none⟩])
 (.block 0 (.loop A62_l0)))
 (.seq (.reg [⟨some 30, .mov (.t 3), none⟩,
  ⟨some 2, .mov (.t 30), none⟩])
 (.ret))))), true⟩
theorem C62 : compF Tryz.prog Tryz.f62 true = some A62 := by kernel_rfl

/- drayage/store.copySpec -/
def A63_l0 : ACode := .seq (.reg [⟨some 17, .gen (.binOp .lss 3 (.tmp 16) (.tmp 15) 3) 0, none⟩])
 (.seq (.cond (.t 17) (.skip) (.exit 0))
 (.seq (.block 1 (.seq (.reg [⟨some 18, .mov (.t 16), none⟩,
  ⟨some 3, .mov (.t 18), none⟩])
 (.drw [⟨some 19, .fld 1 (.t 1), none⟩,
  ⟨some 20, .load none (.t 19), none⟩,
  ⟨some 21, .mov (.t 3), none⟩,
  ⟨some 22, .fld 1 (.t 1), none⟩,
  ⟨some 23, .load none (.t 22), none⟩,
  ⟨some 24, .mov (.t 3), none⟩,
  ⟨some 25, .idx 1 none (.t 23) (.t 24), none⟩,
  ⟨some 26, .load none (.t 25), none⟩,
  ⟨some 27, .call (.k (.c (.fn (.func 53) [] []))) [(.t 26)], none⟩,
  ⟨some 28, .idx 1 none (.t 20) (.t 21), none⟩,
  ⟨none, .store 1 (.t 28) (.t 27), none⟩] [0, 1, 0, 0, 8, 0, 56, 120, 248, 511, 1023] 11 0)))
 (.reg [⟨some 29, .gen (.binOp .add 3 (.tmp 16) (.const (.int .i64 1)) 3) 3, none⟩,
  ⟨some 16, .mov (.t 29), none⟩])))
def A63_l1 : ACode := .seq (.reg [⟨some 38, .gen (.binOp .lss 3 (.tmp 37) (.tmp 36) 3) 0, none⟩])
 (.seq (.cond (.t 38) (.skip) (.exit 2))
 (.seq (.block 3 (.seq (.reg [⟨some 39, .mov (.t 37), none⟩,
  ⟨some 4, .mov (.t 39), none⟩])
 (.drw [⟨some 40, .fld 2 (.t 1), none⟩,
  ⟨some 41, .load none (.t 40), none⟩,
  ⟨some 42, .mov (.t 4), none⟩,
  ⟨some 43, .fld 2 (.t 1), none⟩,
  ⟨some 44, .load none (.t 43), none⟩,
  ⟨some 45, .mov (.t 4), none⟩,
  ⟨some 46, .idx 6 none (.t 44) (.t 45), none⟩,
  ⟨some 47, .fld 1 (.t 46), none⟩,
  ⟨some 48, .load none (.t 47), none⟩,
  ⟨some 49, .call (.k (.c (.fn (.func 53) [] []))) [(.t 48)], none⟩,
  ⟨some 50, .idx 6 none (.t 41) (.t 42), none⟩,
  ⟨some 51, .fld 1 (.t 50), none⟩,
  ⟨none, .store 1 (.t 51) (.t 49), none⟩] [0, 1, 0, 0, 8, 0, 56, 120, 248, 504, 1023, 2047, 4095] 13 0)))
 (.reg [⟨some 52, .gen (.binOp .add 3 (.tmp 37) (.const (.int .i64 1)) 3) 3, none⟩,
  ⟨some 37, .mov (.t 52), none⟩])))
def A63 : AFunc := ⟨1, 54, [(2, some (some 18))], .seq (.reg [⟨some 1, .box (.t 0), none⟩,
  ⟨some 2, .alloc [.c (.lit (.slice none 0 0)), .c (.lit (.slice none 0 0)), .c (.lit (.slice none 0 0)), .c (.lit (.int .i64 0)), .c (.lit (.int .i64 0)), .c (.lit (.int .i64 0)), .c (.lit (.int .i64 0)), .c (.lit (.int .i64 0)), .c (.lit (.int .i64 0)), .c (.lit (.int .i64 0)), .c (.lit (.int .i64 0)), .c (.lit (.int .i64 0)), .c (.lit (.int .i64 0)), .c (.lit (.int .i64 0)), .c (.lit (.int .i64 0)), .c (.lit (.int .i64 0)), .c (.lit (.int .i64 0)), .c (.lit (.int .i64 0))], none⟩])
 (.seq (.reg [⟨some 5, .fld 0 (.t 1), none⟩,
  ⟨some 6, .load none (.t 5), none⟩,
  ⟨some 7, .call (.k (.c (.fn (.func 105) [] []))) [(.t 6)], none⟩,
  ⟨some 8, .fld 0 (.t 1), none⟩,
  ⟨none, .store 1 (.t 8) (.t 7), none⟩])
 (.seq (.reg [⟨some 9, .fld 1 (.t 1), none⟩,
  ⟨some 10, .load none (.t 9), none⟩,
  ⟨some 11, .call (.k (.c (.fn (.func 111) [] []))) [(.t 10)], none⟩,
  ⟨some 12, .fld 1 (.t 1), none⟩,
  ⟨none, .store 1 (.t 12) (.t 11), none⟩])
 (.seq (.seq (.reg [⟨some 13, .fld 1 (.t 1), none⟩,
  ⟨some 14, .load none (.t 13), none⟩,
  ⟨some 15, .len (.t 14), none⟩,
  ⟨some 16, .mov (.k (.c (.lit (.int .i64 0)))), none⟩])
 (.block 0 (.loop A63_l0)))
 (.seq (.reg [⟨some 30, .fld 2 (.t 1), none⟩,
  ⟨some 31, .load none (.t 30), none⟩,
  ⟨some 32, .call (.k (.c (.fn (.func 112) [] []))) [(.t 31)], none⟩,
  ⟨some 33, .fld 2 (.t 1), none⟩,
  ⟨none, .store 1 (.t 33) (.t 32), none⟩])
 (.seq (.seq (.reg [⟨some 34, .fld 2 (.t 1), none⟩,
  ⟨some 35, .load none (.t 34), none⟩,
  ⟨some 36, .len (.t 35), none⟩,
  ⟨some 37, .mov (.k (.c (.lit (.int .i64 0)))), none⟩])
 (.block 2 (.loop A63_l1)))
 (.seq (.reg [⟨some 53, .load (some 18) (.t 1), none⟩,
  ⟨none, .store 18 (.t 2) (.t 53), none⟩])
 (.ret))))))), true⟩
theorem C63 : compF Tryz.prog Tryz.f63 true = some A63 := by kernel_rfl

/- drayage/spec.Right -/
def A64 : AFunc := ⟨1, 6, [(2, none)], .seq (.reg [⟨some 1, .box (.t 0), none⟩,
  ⟨some 2, .mov (.k (.c (.lit (.bool false)))), none⟩])
 (.seq (.reg [⟨some 3, .load (some 18) (.t 1), none⟩,
  ⟨some 4, .call (.k (.c (.fn (.func 113) [] []))) [(.t 3)], none⟩,
  ⟨some 5, .gen (.binOp .eql 9 (.tmp 4) (.const (.string ⟨#[]⟩)) 9) 4, none⟩,
  ⟨some 2, .mov (.t 5), none⟩])
 (.ret)), true⟩
theorem C64 : compF Tryz.prog Tryz.f64 true = some A64 := by kernel_rfl

/- drayage/table.New -/
def A65 : AFunc := ⟨1, 13, [(2, none), (3, none)], .seq (.reg [⟨some 2, .mov (.k (.c (.lit (.pointer none)))), none⟩,
  ⟨some 3, .mov (.k (.c (.lit (.int .i64 0)))), none⟩])
 (.seq (.seq (.reg [⟨some 4, .mov (.t 0), none⟩,
  ⟨some 5, .gen (.binOp .lss 3 (.tmp 4) (.const (.int .i64 1)) 3) 4, none⟩,
  ⟨some 6, .mov (.t 5), none⟩,
  ⟨some 7, .mov (.t 0), some (6, false)⟩,
  ⟨some 8, .gen (.binOp .gtr 3 (.tmp 7) (.const (.int .i64 256)) 3) 4, some (6, false)⟩,
  ⟨some 9, .pick (.t 6) (.k (.c (.lit (.bool true)))) (.t 8), none⟩])
 (.cond (.t 9) (.seq (.reg [⟨some 2, .mov (.k (.c (.lit (.pointer none)))), none⟩,
  ⟨some 3, .mov (.k (.c (.lit (.int .i64 2)))), none⟩])
 (.ret)) (.skip)))
 (.seq (.reg [⟨some 10, .mov (.t 0), none⟩,
  ⟨some 11, .build [.c (.lit (.int .i64 0)), .c (.lit (.slice none 0 0))] [(0, 1, (.t 10))], none⟩,
  ⟨some 12, .box (.t 11), none⟩,
  ⟨some 2, .mov (.t 12), none⟩,
  ⟨some 3, .mov (.k (.c (.lit (.int .i64 0)))), none⟩])
 (.ret))), true⟩
theorem C65 : compF Tryz.prog Tryz.f65 true = some A65 := by kernel_rfl

/- drayage/ledger.New -/
def A66 : AFunc := ⟨1, 13, [(2, none), (3, none)], .seq (.reg [⟨some 1, .box (.t 0), none⟩,
  ⟨some 2, .mov (.k (.c (.lit (.pointer none)))), none⟩,
  ⟨some 3, .mov (.k (.c (.lit (.int .i64 0)))), none⟩])
 (.seq (.seq (.reg [⟨some 4, .load (some 18) (.t 1), none⟩,
  ⟨some 5, .call (.k (.c (.fn (.func 64) [] []))) [(.t 4)], none⟩,
  ⟨some 6, .gen (.unOp .not 4 (.tmp 5)) 4, none⟩])
 (.cond (.t 6) (.seq (.reg [⟨some 2, .mov (.k (.c (.lit (.pointer none)))), none⟩,
  ⟨some 3, .mov (.k (.c (.lit (.int .i64 2)))), none⟩])
 (.ret)) (.skip)))
 (.seq (.reg [⟨some 7, .fld 0 (.t 1), none⟩,
  ⟨some 8, .load none (.t 7), none⟩,
  ⟨some 9, .call (.k (.c (.fn (.func 105) [] []))) [(.t 8)], none⟩,
  ⟨some 10, .mkmap, none⟩,
  ⟨some 11, .build [.c (.lit (.slice none 0 0)), .c (.lit (.map none))] [(0, 1, (.t 9)), (1, 1, (.t 10))], none⟩,
  ⟨some 12, .box (.t 11), none⟩,
  ⟨some 2, .mov (.t 12), none⟩,
  ⟨some 3, .mov (.k (.c (.lit (.int .i64 0)))), none⟩])
 (.ret))), true⟩
theorem C66 : compF Tryz.prog Tryz.f66 true = some A66 := by kernel_rfl

/- drayage/share.New -/
def A67 : AFunc := ⟨1, 6, [(2, none)], .seq (.reg [⟨some 2, .mov (.k (.c (.lit (.slice none 0 0)))), none⟩])
 (.seq (.reg [⟨some 3, .mov (.t 0), none⟩,
  ⟨some 4, .call (.k (.c (.fn (.func 114) [] []))) [(.t 3), (.k (.c (.lit (.int .i64 0)))), (.k (.c (.lit (.int .i64 8))))], none⟩,
  ⟨some 5, .mk 1 8 [.c (.lit (.int .i64 0))] (.t 4) (.t 4), none⟩,
  ⟨some 2, .mov (.t 5), none⟩])
 (.ret)), true⟩
theorem C67 : compF Tryz.prog Tryz.f67 true = some A67 := by kernel_rfl

/- drayage/submit.checkSender -/
def A68 : AFunc := ⟨1, 28, [(2, none)], .seq (.reg [⟨some 2, .mov (.k (.c (.lit (.int .i64 0)))), none⟩])
 (.seq (.seq (.drw [⟨some 3, .mov (.t 0), none⟩,
  ⟨some 4, .nilck (.t 3), none⟩,
  ⟨some 5, .fld 28 (.t 4), none⟩,
  ⟨some 6, .fld 0 (.t 5), none⟩,
  ⟨some 7, .load none (.t 6), none⟩,
  ⟨some 8, .gen (.binOp .neq 3 (.tmp 7) (.const (.int .i64 1)) 3) 4, none⟩,
  ⟨some 9, .mov (.t 8), none⟩,
  ⟨some 10, .mov (.t 0), some (9, false)⟩,
  ⟨some 11, .nilck (.t 10), some (9, false)⟩,
  ⟨some 12, .fld 27 (.t 11), some (9, false)⟩,
  ⟨some 13, .load none (.t 12), some (9, false)⟩,
  ⟨some 14, .gen (.binOp .lss 3 (.tmp 13) (.const (.int .i64 0)) 3) 4, some (9, false)⟩,
  ⟨some 15, .pick (.t 9) (.k (.c (.lit (.bool true)))) (.t 14), none⟩,
  ⟨some 16, .mov (.t 15), none⟩,
  ⟨some 17, .mov (.t 0), some (16, false)⟩,
  ⟨some 18, .nilck (.t 17), some (16, false)⟩,
  ⟨some 19, .fld 27 (.t 18), some (16, false)⟩,
  ⟨some 20, .load none (.t 19), some (16, false)⟩,
  ⟨some 21, .mov (.t 0), some (16, false)⟩,
  ⟨some 22, .nilck (.t 21), some (16, false)⟩,
  ⟨some 23, .fld 0 (.t 22), some (16, false)⟩,
  ⟨some 24, .fld 3 (.t 23), some (16, false)⟩,
  ⟨some 25, .load none (.t 24), some (16, false)⟩,
  ⟨some 26, .gen (.binOp .geq 3 (.tmp 20) (.tmp 25) 3) 4, some (16, false)⟩,
  ⟨some 27, .pick (.t 16) (.k (.c (.lit (.bool true)))) (.t 26), none⟩] [0, 1, 3, 7, 15, 31, 63, 127, 255, 511, 1023, 2047, 4095, 8191, 16383, 32767, 65535, 131071, 16383, 278527, 802815, 1851391, 3948543, 8388607, 16777215] 25 1)
 (.cond (.t 27) (.seq (.reg [⟨some 2, .mov (.k (.c (.lit (.int .i64 2)))), none⟩])
 (.ret)) (.skip)))
 (.seq (.reg [⟨some 2, .mov (.k (.c (.lit (.int .i64 0)))), none⟩])
 (.ret))), true⟩
theorem C68 : compF Tryz.prog Tryz.f68 true = some A68 := by kernel_rfl

/- drayage/submit.checkQueue -/
def A69 : AFunc := ⟨1, 38, [(2, none)], .seq (.reg [⟨some 2, .mov (.k (.c (.lit (.int .i64 0)))), none⟩])
 (.seq (.seq (.drw [⟨some 3, .mov (.t 0), none⟩,
  ⟨some 4, .nilck (.t 3), none⟩,
  ⟨some 5, .fld 28 (.t 4), none⟩,
  ⟨some 6, .fld 4 (.t 5), none⟩,
  ⟨some 7, .load none (.t 6), none⟩,
  ⟨some 8, .gen (.binOp .lss 3 (.tmp 7) (.const (.int .i64 0)) 3) 4, none⟩,
  ⟨some 9, .mov (.t 8), none⟩,
  ⟨some 10, .mov (.t 0), some (9, false)⟩,
  ⟨some 11, .nilck (.t 10), some (9, false)⟩,
  ⟨some 12, .fld 28 (.t 11), some (9, false)⟩,
  ⟨some 13, .fld 4 (.t 12), some (9, false)⟩,
  ⟨some 14, .load none (.t 13), some (9, false)⟩,
  ⟨some 15, .mov (.t 0), some (9, false)⟩,
  ⟨some 16, .nilck (.t 15), some (9, false)⟩,
  ⟨some 17, .fld 0 (.t 16), some (9, false)⟩,
  ⟨some 18, .fld 2 (.t 17), some (9, false)⟩,
  ⟨some 19, .load none (.t 18), some (9, false)⟩,
  ⟨some 20, .len (.t 19), some (9, false)⟩,
  ⟨some 21, .gen (.binOp .geq 3 (.tmp 14) (.tmp 20) 3) 4, some (9, false)⟩,
  ⟨some 22, .pick (.t 9) (.k (.c (.lit (.bool true)))) (.t 21), none⟩] [0, 1, 3, 7, 15, 31, 63, 127, 255, 511, 1023, 2047, 127, 4223, 12415, 28799, 61567, 127103, 262143, 524287] 20 1)
 (.cond (.t 22) (.seq (.reg [⟨some 2, .mov (.k (.c (.lit (.int .i64 30)))), none⟩])
 (.ret)) (.skip)))
 (.seq (.seq (.drw [⟨some 23, .mov (.t 0), none⟩,
  ⟨some 24, .nilck (.t 23), none⟩,
  ⟨some 25, .fld 0 (.t 24), none⟩,
  ⟨some 26, .load (some 18) (.t 25), none⟩,
  ⟨some 27, .mov (.t 0), none⟩,
  ⟨some 28, .nilck (.t 27), none⟩,
  ⟨some 29, .fld 28 (.t 28), none⟩,
  ⟨some 30, .fld 4 (.t 29), none⟩,
  ⟨some 31, .load none (.t 30), none⟩,
  ⟨some 32, .mov (.t 0), none⟩,
  ⟨some 33, .nilck (.t 32), none⟩,
  ⟨some 34, .fld 27 (.t 33), none⟩,
  ⟨some 35, .load none (.t 34), none⟩,
  ⟨some 36, .call (.k (.c (.fn (.func 115) [] []))) [(.t 26), (.t 31), (.t 35)], none⟩,
  ⟨some 37, .gen (.unOp .not 4 (.tmp 36)) 4, none⟩] [0, 1, 3, 7, 0, 16, 48, 112, 240, 0, 512, 1536, 3584, 8191, 16383] 15 1)
 (.cond (.t 37) (.seq (.reg [⟨some 2, .mov (.k (.c (.lit (.int .i64 33)))), none⟩])
 (.ret)) (.skip)))
 (.seq (.reg [⟨some 2, .mov (.k (.c (.lit (.int .i64 0)))), none⟩])
 (.ret)))), true⟩
theorem C69 : compF Tryz.prog Tryz.f69 true = some A69 := by kernel_rfl

/- drayage/submit.checks$1 -/
def A70 : AFunc := ⟨1, 8, [(2, none)], .seq (.reg [⟨some 2, .mov (.k (.c (.lit (.int .i64 0)))), none⟩])
 (.seq (.reg [⟨some 3, .mov (.t 0), none⟩,
  ⟨some 4, .nilck (.t 3), none⟩,
  ⟨some 5, .fld 28 (.t 4), none⟩,
  ⟨some 6, .load (some 17) (.t 5), none⟩,
  ⟨some 7, .call (.k (.c (.fn (.func 71) [] []))) [(.t 6)], none⟩,
  ⟨some 2, .mov (.t 7), none⟩])
 (.ret)), true⟩
theorem C70 : compF Tryz.prog Tryz.f70 true = some A70 := by kernel_rfl

/- drayage/submit.Demand -/
def A71 : AFunc := ⟨1, 42, [(2, none)], .seq (.reg [⟨some 1, .box (.t 0), none⟩,
  ⟨some 2, .mov (.k (.c (.lit (.int .i64 0)))), none⟩])
 (.seq (.seq (.reg [⟨some 5, .fld 5 (.t 1), none⟩,
  ⟨some 6, .load none (.t 5), none⟩,
  ⟨some 7, .gen (.binOp .lss 3 (.tmp 6) (.const (.int .i64 1)) 3) 4, none⟩,
  ⟨some 8, .mov (.t 7), none⟩,
  ⟨some 9, .fld 5 (.t 1), some (8, false)⟩,
  ⟨some 10, .load none (.t 9), some (8, false)⟩,
  ⟨some 11, .gen (.binOp .gtr 3 (.tmp 10) (.const (.int .i64 64)) 3) 4, some (8, false)⟩,
  ⟨some 12, .pick (.t 8) (.k (.c (.lit (.bool true)))) (.t 11), none⟩,
  ⟨some 13, .mov (.t 12), none⟩,
  ⟨some 14, .fld 6 (.t 1), some (13, false)⟩,
  ⟨some 15, .load (some 4) (.t 14), some (13, false)⟩,
  ⟨some 16, .call (.k (.c (.fn (.func 90) [] []))) [(.t 15)], some (13, false)⟩,
  ⟨some 17, .gen (.unOp .not 4 (.tmp 16)) 4, some (13, false)⟩,
  ⟨some 18, .pick (.t 13) (.k (.c (.lit (.bool true)))) (.t 17), none⟩,
  ⟨some 19, .mov (.t 18), none⟩,
  ⟨some 20, .fld 6 (.t 1), some (19, false)⟩,
  ⟨some 21, .load (some 4) (.t 20), some (19, false)⟩,
  ⟨some 22, .build [.c (.lit (.int .i64 0)), .c (.lit (.int .i64 0)), .c (.lit (.int .i64 0)), .c (.lit (.int .i64 0))] [], some (19, false)⟩,
  ⟨some 23, .gen (.binOp .eql 23 (.tmp 21) (.tmp 22) 23) 4, some (19, false)⟩,
  ⟨some 24, .pick (.t 19) (.k (.c (.lit (.bool true)))) (.t 23), none⟩])
 (.cond (.t 24) (.seq (.reg [⟨some 2, .mov (.k (.c (.lit (.int .i64 2)))), none⟩])
 (.ret)) (.skip)))
 (.seq (.seq (.reg [⟨some 25, .fld 10 (.t 1), none⟩,
  ⟨some 26, .load none (.t 25), none⟩,
  ⟨some 27, .gen (.binOp .lss 3 (.tmp 26) (.const (.int .i64 1)) 3) 4, none⟩,
  ⟨some 28, .mov (.t 27), none⟩,
  ⟨some 29, .fld 10 (.t 1), some (28, false)⟩,
  ⟨some 30, .load none (.t 29), some (28, false)⟩,
  ⟨some 31, .gen (.binOp .gtr 3 (.tmp 30) (.const (.int .i64 65536)) 3) 4, some (28, false)⟩,
  ⟨some 32, .pick (.t 28) (.k (.c (.lit (.bool true)))) (.t 31), none⟩])
 (.cond (.t 32) (.seq (.reg [⟨some 2, .mov (.k (.c (.lit (.int .i64 2)))), none⟩])
 (.ret)) (.skip)))
 (.seq (.reg [⟨some 34, .fld 6 (.t 1), none⟩,
  ⟨some 35, .load (some 4) (.t 34), none⟩,
  ⟨some 36, .fld 5 (.t 1), none⟩,
  ⟨some 37, .load none (.t 36), none⟩,
  ⟨some 38, .call (.k (.c (.fn (.func 116) [] []))) [(.t 35), (.t 37)], none⟩,
  ⟨some 33, .mov (.t 38), none⟩,
  ⟨some 39, .extract (.t 33) 0, none⟩,
  ⟨some 40, .extract (.t 33) 1, none⟩,
  ⟨some 3, .alloc [.c (.lit (.int .i64 0)), .c (.lit (.int .i64 0)), .c (.lit (.int .i64 0)), .c (.lit (.int .i64 0))], none⟩,
  ⟨none, .store 4 (.t 3) (.t 39), none⟩,
  ⟨some 4, .mov (.t 40), none⟩])
 (.seq (.reg [⟨some 41, .mov (.t 4), none⟩,
  ⟨some 2, .mov (.t 41), none⟩])
 (.ret))))), true⟩
theorem C71 : compF Tryz.prog Tryz.f71 true = some A71 := by kernel_rfl

/- drayage/submit.checkSize -/
def A72 : AFunc := ⟨1, 26, [(2, none)], .seq (.reg [⟨some 2, .mov (.k (.c (.lit (.int .i64 0)))), none⟩])
 (.seq (.seq (.reg [⟨some 3, .mov (.t 0), none⟩,
  ⟨some 4, .nilck (.t 3), none⟩,
  ⟨some 5, .fld 28 (.t 4), none⟩,
  ⟨some 6, .fld 11 (.t 5), none⟩,
  ⟨some 7, .load none (.t 6), none⟩,
  ⟨some 8, .gen (.binOp .lss 3 (.tmp 7) (.const (.int .i64 1)) 3) 4, none⟩,
  ⟨some 9, .mov (.t 8), none⟩,
  ⟨some 10, .mov (.t 0), some (9, false)⟩,
  ⟨some 11, .nilck (.t 10), some (9, false)⟩,
  ⟨some 12, .fld 28 (.t 11), some (9, false)⟩,
  ⟨some 13, .fld 11 (.t 12), some (9, false)⟩,
  ⟨some 14, .load none (.t 13), some (9, false)⟩,
  ⟨some 15, .gen (.binOp .gtr 3 (.tmp 14) (.const (.int .i64 16)) 3) 4, some (9, false)⟩,
  ⟨some 16, .pick (.t 9) (.k (.c (.lit (.bool true)))) (.t 15), none⟩,
  ⟨some 17, .mov (.t 16), none⟩,
  ⟨some 18, .mov (.t 0), some (17, false)⟩,
  ⟨some 19, .nilck (.t 18), some (17, false)⟩,
  ⟨some 20, .fld 28 (.t 19), some (17, false)⟩,
  ⟨some 21, .fld 12 (.t 20), some (17, false)⟩,
  ⟨some 22, .load none (.t 21), some (17, false)⟩,
  ⟨some 23, .len (.t 22), some (17, false)⟩,
  ⟨some 24, .gen (.binOp .gtr 3 (.tmp 23) (.const (.int .i64 4)) 3) 4, some (17, false)⟩,
  ⟨some 25, .pick (.t 17) (.k (.c (.lit (.bool true)))) (.t 24), none⟩])
 (.cond (.t 25) (.seq (.reg [⟨some 2, .mov (.k (.c (.lit (.int .i64 2)))), none⟩])
 (.ret)) (.skip)))
 (.seq (.reg [⟨some 2, .mov (.k (.c (.lit (.int .i64 0)))), none⟩])
 (.ret))), true⟩
theorem C72 : compF Tryz.prog Tryz.f72 true = some A72 := by kernel_rfl

/- drayage/submit.checkAfter -/
def A73_l0 : ACode := .seq (.reg [⟨some 25, .gen (.binOp .lss 3 (.tmp 24) (.tmp 23) 3) 0, none⟩])
 (.seq (.cond (.t 25) (.skip) (.exit 2))
 (.seq (.block 3 (.seq (.reg [⟨some 26, .idx 18 none (.t 22) (.t 24), none⟩,
  ⟨some 27, .load (some 18) (.t 26), none⟩,
  ⟨some 7, .alloc [.c (.lit (.int .i64 0)), .c (.lit (.int .i64 0)), .c (.lit (.int .i64 0)), .c (.lit (.int .i64 0)), .c (.lit (.int .i64 0)), .c (.lit (.int .i64 0)), .c (.lit (.int .i64 0)), .c (.lit (.int .i64 0)), .c (.lit (.int .i64 0)), .c (.lit (.slice none 0 0)), .c (.lit (.int .i64 0)), .c (.lit (.bool false)), .c (.lit (.bool false)), .c (.lit (.int .i64 0)), .c (.lit (.int .i64 0)), .c (.lit (.int .i64 0)), .c (.lit (.int .i64 0)), .c (.lit (.int .i64 0))], none⟩,
  ⟨none, .store 18 (.t 7) (.t 27), none⟩])
 (.reg [⟨some 28, .mov (.t 5), none⟩,
  ⟨some 29, .mov (.t 28), none⟩,
  ⟨some 30, .fld 0 (.t 7), some (29, false)⟩,
  ⟨some 31, .load none (.t 30), some (29, false)⟩,
  ⟨some 32, .fld 0 (.t 4), some (29, false)⟩,
  ⟨some 33, .load none (.t 32), some (29, false)⟩,
  ⟨some 34, .gen (.binOp .eql 3 (.tmp 31) (.tmp 33) 3) 4, some (29, false)⟩,
  ⟨some 35, .pick (.t 29) (.k (.c (.lit (.bool true)))) (.t 34), none⟩,
  ⟨some 5, .mov (.t 35), none⟩])))
 (.reg [⟨some 36, .gen (.binOp .add 3 (.tmp 24) (.const (.int .i64 1)) 3) 3, none⟩,
  ⟨some 24, .mov (.t 36), none⟩])))
def A73_l1 : ACode := .seq (.reg [⟨some 15, .gen (.binOp .lss 3 (.tmp 14) (.tmp 13) 3) 0, none⟩])
 (.seq (.cond (.t 15) (.skip) (.exit 0))
 (.seq (.block 1 (.seq (.reg [⟨some 16, .idx 2 none (.t 12) (.t 14), none⟩,
  ⟨some 17, .load (some 2) (.t 16), none⟩,
  ⟨some 4, .alloc [.c (.lit (.int .i64 0)), .c (.lit (.bool false))], none⟩,
  ⟨none, .store 2 (.t 4) (.t 17), none⟩])
 (.seq (.reg [⟨some 5, .mov (.k (.c (.lit (.bool false)))), none⟩])
 (.seq (.seq (.reg [⟨some 18, .mov (.t 0), none⟩,
  ⟨some 19, .nilck (.t 18), none⟩,
  ⟨some 20, .fld 18 (.t 19), none⟩,
  ⟨some 21, .fld 3 (.t 20), none⟩,
  ⟨some 22, .load none (.t 21), none⟩,
  ⟨some 23, .len (.t 22), none⟩,
  ⟨some 24, .mov (.k (.c (.lit (.int .i64 0)))), none⟩])
 (.block 2 (.loop A73_l0)))
 (.seq (.reg [⟨some 37, .mov (.t 5), none⟩,
  ⟨some 38, .gen (.unOp .not 4 (.tmp 37)) 4, none⟩])
 (.cond (.t 38) (.seq (.reg [⟨some 2, .mov (.k (.c (.lit (.int .i64 40)))), none⟩])
 (.ret)) (.skip)))))))
 (.reg [⟨some 39, .gen (.binOp .add 3 (.tmp 14) (.const (.int .i64 1)) 3) 3, none⟩,
  ⟨some 14, .mov (.t 39), none⟩])))
def A73 : AFunc := ⟨1, 40, [(2, none)], .seq (.reg [⟨some 2, .mov (.k (.c (.lit (.int .i64 0)))), none⟩])
 (.seq (.seq (.reg [⟨some 8, .mov (.t 0), none⟩,
  ⟨some 9, .nilck (.t 8), none⟩,
  ⟨some 10, .fld 28 (.t 9), none⟩,
  ⟨some 11, .fld 12 (.t 10), none⟩,
  ⟨some 12, .load none (.t 11), none⟩,
  ⟨some 13, .len (.t 12), none⟩,
  ⟨some 14, .mov (.k (.c (.lit (.int .i64 0)))), none⟩])
 (.block 0 (.loop A73_l1)))
 (.seq (.reg [⟨some 2, .mov (.k (.c (.lit (.int .i64 0)))), none⟩])
 (.ret))), true⟩
theorem C73 : compF Tryz.prog Tryz.f73 true = some A73 := by kernel_rfl

/- drayage/submit.checkRoom -/
def A74 : AFunc := ⟨1, 45, [(2, none)], .seq (.reg [⟨some 2, .mov (.k (.c (.lit (.int .i64 0)))), none⟩])
 (.seq (.seq (.drw [⟨some 3, .mov (.t 0), none⟩,
  ⟨some 4, .nilck (.t 3), none⟩,
  ⟨some 5, .fld 0 (.t 4), none⟩,
  ⟨some 6, .load (some 18) (.t 5), none⟩,
  ⟨some 7, .mov (.t 0), none⟩,
  ⟨some 8, .nilck (.t 7), none⟩,
  ⟨some 9, .fld 28 (.t 8), none⟩,
  ⟨some 10, .fld 4 (.t 9), none⟩,
  ⟨some 11, .load none (.t 10), none⟩,
  ⟨some 12, .mov (.t 0), none⟩,
  ⟨some 13, .nilck (.t 12), none⟩,
  ⟨some 14, .fld 28 (.t 13), none⟩,
  ⟨some 15, .fld 5 (.t 14), none⟩,
  ⟨some 16, .load none (.t 15), none⟩,
  ⟨some 17, .mov (.t 0), none⟩,
  ⟨some 18, .nilck (.t 17), none⟩,
  ⟨some 19, .fld 28 (.t 18), none⟩,
  ⟨some 20, .fld 6 (.t 19), none⟩,
  ⟨some 21, .load (some 4) (.t 20), none⟩,
  ⟨some 22, .call (.k (.c (.fn (.func 117) [] []))) [(.t 6), (.t 11), (.t 16), (.t 21)], none⟩,
  ⟨some 23, .gen (.unOp .not 4 (.tmp 22)) 4, none⟩] [0, 1, 3, 7, 0, 16, 48, 112, 240, 0, 512, 1536, 3584, 7680, 0, 16384, 49152, 114688, 245760, 524287, 1048575] 21 1)
 (.cond (.t 23) (.seq (.reg [⟨some 2, .mov (.k (.c (.lit (.int .i64 37)))), none⟩])
 (.ret)) (.skip)))
 (.seq (.seq (.drw [⟨some 24, .mov (.t 0), none⟩,
  ⟨some 25, .nilck (.t 24), none⟩,
  ⟨some 26, .fld 0 (.t 25), none⟩,
  ⟨some 27, .load (some 18) (.t 26), none⟩,
  ⟨some 28, .mov (.t 0), none⟩,
  ⟨some 29, .nilck (.t 28), none⟩,
  ⟨some 30, .fld 18 (.t 29), none⟩,
  ⟨some 31, .fld 3 (.t 30), none⟩,
  ⟨some 32, .load none (.t 31), none⟩,
  ⟨some 33, .mov (.t 0), none⟩,
  ⟨some 34, .nilck (.t 33), none⟩,
  ⟨some 35, .fld 28 (.t 34), none⟩,
  ⟨some 36, .fld 4 (.t 35), none⟩,
  ⟨some 37, .load none (.t 36), none⟩,
  ⟨some 38, .mov (.t 0), none⟩,
  ⟨some 39, .nilck (.t 38), none⟩,
  ⟨some 40, .fld 28 (.t 39), none⟩,
  ⟨some 41, .fld 11 (.t 40), none⟩,
  ⟨some 42, .load none (.t 41), none⟩,
  ⟨some 43, .call (.k (.c (.fn (.func 118) [] []))) [(.t 27), (.t 32), (.t 37), (.t 42)], none⟩,
  ⟨some 44, .gen (.unOp .not 4 (.tmp 43)) 4, none⟩] [0, 1, 3, 7, 0, 16, 48, 112, 240, 0, 512, 1536, 3584, 7680, 0, 16384, 49152, 114688, 245760, 524287, 1048575] 21 1)
 (.cond (.t 44) (.seq (.reg [⟨some 2, .mov (.k (.c (.lit (.int .i64 34)))), none⟩])
 (.ret)) (.skip)))
 (.seq (.reg [⟨some 2, .mov (.k (.c (.lit (.int .i64 0)))), none⟩])
 (.ret)))), true⟩
theorem C74 : compF Tryz.prog Tryz.f74 true = some A74 := by kernel_rfl

/- drayage/submit.checkCapacity -/
def A75 : AFunc := ⟨1, 39, [(2, none)], .seq (.reg [⟨some 2, .mov (.k (.c (.lit (.int .i64 0)))), none⟩])
 (.seq (.seq (.drw [⟨some 3, .mov (.t 0), none⟩,
  ⟨some 4, .nilck (.t 3), none⟩,
  ⟨some 5, .fld 18 (.t 4), none⟩,
  ⟨some 6, .fld 3 (.t 5), none⟩,
  ⟨some 7, .load none (.t 6), none⟩,
  ⟨some 8, .len (.t 7), none⟩,
  ⟨some 9, .mov (.t 0), none⟩,
  ⟨some 10, .nilck (.t 9), none⟩,
  ⟨some 11, .fld 28 (.t 10), none⟩,
  ⟨some 12, .fld 11 (.t 11), none⟩,
  ⟨some 13, .load none (.t 12), none⟩,
  ⟨some 14, .gen (.binOp .add 3 (.tmp 8) (.tmp 13) 3) 3, none⟩,
  ⟨some 15, .mov (.t 0), none⟩,
  ⟨some 16, .nilck (.t 15), none⟩,
  ⟨some 17, .fld 0 (.t 16), none⟩,
  ⟨some 18, .fld 10 (.t 17), none⟩,
  ⟨some 19, .load none (.t 18), none⟩,
  ⟨some 20, .gen (.binOp .gtr 3 (.tmp 14) (.tmp 19) 3) 4, none⟩] [0, 1, 3, 7, 15, 31, 0, 64, 192, 448, 960, 2047, 0, 4096, 12288, 28672, 61440, 131071] 18 1)
 (.cond (.t 20) (.seq (.reg [⟨some 2, .mov (.k (.c (.lit (.int .i64 35)))), none⟩])
 (.ret)) (.skip)))
 (.seq (.seq (.drw [⟨some 21, .mov (.t 0), none⟩,
  ⟨some 22, .nilck (.t 21), none⟩,
  ⟨some 23, .fld 18 (.t 22), none⟩,
  ⟨some 24, .fld 1 (.t 23), none⟩,
  ⟨some 25, .load none (.t 24), none⟩,
  ⟨some 26, .mov (.t 0), none⟩,
  ⟨some 27, .nilck (.t 26), none⟩,
  ⟨some 28, .fld 28 (.t 27), none⟩,
  ⟨some 29, .fld 11 (.t 28), none⟩,
  ⟨some 30, .load none (.t 29), none⟩,
  ⟨some 31, .gen (.binOp .add 3 (.tmp 25) (.tmp 30) 3) 3, none⟩,
  ⟨some 32, .gen (.binOp .sub 3 (.tmp 31) (.const (.int .i64 1)) 3) 3, none⟩,
  ⟨some 33, .mov (.t 0), none⟩,
  ⟨some 34, .nilck (.t 33), none⟩,
  ⟨some 35, .fld 0 (.t 34), none⟩,
  ⟨some 36, .fld 11 (.t 35), none⟩,
  ⟨some 37, .load none (.t 36), none⟩,
  ⟨some 38, .gen (.binOp .gtr 3 (.tmp 32) (.tmp 37) 3) 4, none⟩] [0, 1, 3, 7, 15, 0, 32, 96, 224, 480, 1023, 2047, 0, 4096, 12288, 28672, 61440, 131071] 18 1)
 (.cond (.t 38) (.seq (.reg [⟨some 2, .mov (.k (.c (.lit (.int .i64 36)))), none⟩])
 (.ret)) (.skip)))
 (.seq (.reg [⟨some 2, .mov (.k (.c (.lit (.int .i64 0)))), none⟩])
 (.ret)))), true⟩
theorem C75 : compF Tryz.prog Tryz.f75 true = some A75 := by kernel_rfl

/- slices.Clone[[]drayage/api.Dep,drayage/api.Dep] -/
def A76 : AFunc := ⟨1, 8, [(2, none)], .seq (.reg [⟨some 2, .mov (.k (.c (.lit (.slice none 0 0)))), none⟩])
 (.seq (.seq (.reg [⟨some 3, .mov (.t 0), none⟩,
  ⟨some 4, .isnil 3 false (.t 3), none⟩])
 (.cond (.t 4) (.seq (.reg [⟨some 2, .mov (.k (.c (.lit (.slice none 0 0)))), none⟩])
 (.ret)) (.skip)))
 (.seq (.reg [⟨some 5, .bslice 2 0 [.c (.lit (.int .i64 0)), .c (.lit (.bool false))] [], none⟩,
  ⟨some 6, .mov (.t 0), none⟩,
  ⟨some 7, .append 2 16 (.t 5) (.t 6), none⟩,
  ⟨some 2, .mov (.t 7), none⟩])
 (.ret))), true⟩
theorem C76 : compF Tryz.prog Tryz.f76 true = some A76 := by kernel_rfl

/- (*drayage/table.Table).find -/
def A87 : AFunc := ⟨2, 34, [(4, none), (5, none)], .seq (.reg [⟨some 2, .box (.t 0), none⟩,
  ⟨some 3, .box (.t 1), none⟩,
  ⟨some 4, .mov (.k (.c (.lit (.int .i64 0)))), none⟩,
  ⟨some 5, .mov (.k (.c (.lit (.bool false)))), none⟩])
 (.seq (.reg [⟨some 7, .load none (.t 2), none⟩,
  ⟨some 8, .nilck (.t 7), none⟩,
  ⟨some 9, .fld 1 (.t 8), none⟩,
  ⟨some 10, .load none (.t 9), none⟩,
  ⟨some 11, .len (.t 10), none⟩,
  ⟨some 12, .mkfn (.func 124) [] [(.t 2), (.t 3)], none⟩,
  ⟨some 13, .call (.k (.c (.fn (.func 123) [] []))) [(.t 11), (.t 12)], none⟩,
  ⟨some 6, .mov (.t 13), none⟩])
 (.seq (.drw [⟨some 14, .mov (.t 6), none⟩,
  ⟨some 15, .mov (.t 6), none⟩,
  ⟨some 16, .load none (.t 2), none⟩,
  ⟨some 17, .nilck (.t 16), none⟩,
  ⟨some 18, .fld 1 (.t 17), none⟩,
  ⟨some 19, .load none (.t 18), none⟩,
  ⟨some 20, .len (.t 19), none⟩,
  ⟨some 21, .gen (.binOp .lss 3 (.tmp 15) (.tmp 20) 3) 4, none⟩,
  ⟨some 22, .mov (.t 21), none⟩,
  ⟨some 23, .load none (.t 2), some (22, true)⟩,
  ⟨some 24, .nilck (.t 23), some (22, true)⟩,
  ⟨some 25, .fld 1 (.t 24), some (22, true)⟩,
  ⟨some 26, .load none (.t 25), some (22, true)⟩,
  ⟨some 27, .mov (.t 6), some (22, true)⟩,
  ⟨some 28, .idx 18 none (.t 26) (.t 27), some (22, true)⟩,
  ⟨some 29, .fld 0 (.t 28), some (22, true)⟩,
  ⟨some 30, .load none (.t 29), some (22, true)⟩,
  ⟨some 31, .load none (.t 3), some (22, true)⟩,
  ⟨some 32, .gen (.binOp .eql 3 (.tmp 30) (.tmp 31) 3) 4, some (22, true)⟩,
  ⟨some 33, .pick (.t 22) (.t 32) (.k (.c (.lit (.bool false)))), none⟩,
  ⟨some 4, .mov (.t 14), none⟩,
  ⟨some 5, .mov (.t 33), none⟩] [0, 0, 0, 4, 12, 28, 60, 126, 254, 510, 1022, 2046, 4094, 510, 16382, 32766, 65534, 510, 262142, 524286, 511, 2097151] 22 2)
 (.ret))), true⟩
theorem C87 : compF Tryz.prog Tryz.f87 true = some A87 := by kernel_rfl

/- drayage/table.own -/
def A88 : AFunc := ⟨1, 8, [(2, some (some 18))], .seq (.reg [⟨some 1, .box (.t 0), none⟩,
  ⟨some 2, .alloc [.c (.lit (.int .i64 0)), .c (.lit (.int .i64 0)), .c (.lit (.int .i64 0)), .c (.lit (.int .i64 0)), .c (.lit (.int .i64 0)), .c (.lit (.int .i64 0)), .c (.lit (.int .i64 0)), .c (.lit (.int .i64 0)), .c (.lit (.int .i64 0)), .c (.lit (.slice none 0 0)), .c (.lit (.int .i64 0)), .c (.lit (.bool false)), .c (.lit (.bool false)), .c (.lit (.int .i64 0)), .c (.lit (.int .i64 0)), .c (.lit (.int .i64 0)), .c (.lit (.int .i64 0)), .c (.lit (.int .i64 0))], none⟩])
 (.seq (.reg [⟨some 3, .fld 9 (.t 1), none⟩,
  ⟨some 4, .load none (.t 3), none⟩,
  ⟨some 5, .call (.k (.c (.fn (.func 76) [] []))) [(.t 4)], none⟩,
  ⟨some 6, .fld 9 (.t 1), none⟩,
  ⟨none, .store 1 (.t 6) (.t 5), none⟩])
 (.seq (.reg [⟨some 7, .load (some 18) (.t 1), none⟩,
  ⟨none, .store 18 (.t 2) (.t 7), none⟩])
 (.ret))), true⟩
theorem C88 : compF Tryz.prog Tryz.f88 true = some A88 := by kernel_rfl

/- drayage/job.within -/
def A89 : AFunc := ⟨3, 15, [(6, none)], .seq (.reg [⟨some 6, .mov (.k (.c (.lit (.bool false)))), none⟩])
 (.seq (.reg [⟨some 7, .mov (.t 1), none⟩,
  ⟨some 8, .mov (.t 0), none⟩,
  ⟨some 9, .gen (.binOp .leq 3 (.tmp 7) (.tmp 8) 3) 4, none⟩,
  ⟨some 10, .mov (.t 9), none⟩,
  ⟨some 11, .mov (.t 0), some (10, true)⟩,
  ⟨some 12, .mov (.t 2), some (10, true)⟩,
  ⟨some 13, .gen (.binOp .leq 3 (.tmp 11) (.tmp 12) 3) 4, some (10, true)⟩,
  ⟨some 14, .pick (.t 10) (.t 13) (.k (.c (.lit (.bool false)))), none⟩,
  ⟨some 6, .mov (.t 14), none⟩])
 (.ret)), true⟩
theorem C89 : compF Tryz.prog Tryz.f89 true = some A89 := by kernel_rfl

/- drayage/vec.Right -/
def A90_l0 : ACode := .seq (.reg [⟨some 8, .gen (.binOp .lss 3 (.tmp 7) (.const (.int .i64 4)) 3) 0, none⟩])
 (.seq (.cond (.t 8) (.skip) (.exit 0))
 (.seq (.block 1 (.seq (.reg [⟨some 9, .aidx 1 4 none (.t 6) (.t 7), none⟩,
  ⟨some 4, .mov (.t 9), none⟩])
 (.seq (.reg [⟨some 10, .mov (.t 4), none⟩,
  ⟨some 11, .gen (.binOp .lss 3 (.tmp 10) (.const (.int .i64 0)) 3) 4, none⟩,
  ⟨some 12, .mov (.t 11), none⟩,
  ⟨some 13, .mov (.t 4), some (12, false)⟩,
  ⟨some 14, .gen (.binOp .gtr 3 (.tmp 13) (.const (.int .i64 1048576)) 3) 4, some (12, false)⟩,
  ⟨some 15, .pick (.t 12) (.k (.c (.lit (.bool true)))) (.t 14), none⟩])
 (.cond (.t 15) (.seq (.reg [⟨some 2, .mov (.k (.c (.lit (.bool false)))), none⟩])
 (.ret)) (.skip)))))
 (.reg [⟨some 16, .gen (.binOp .add 3 (.tmp 7) (.const (.int .i64 1)) 3) 3, none⟩,
  ⟨some 7, .mov (.t 16), none⟩])))
def A90 : AFunc := ⟨1, 17, [(2, none)], .seq (.reg [⟨some 1, .box (.t 0), none⟩,
  ⟨some 2, .mov (.k (.c (.lit (.bool false)))), none⟩])
 (.seq (.seq (.reg [⟨some 5, .load (some 4) (.t 1), none⟩,
  ⟨some 6, .call (.k (.c (.fn (.func 125) [] []))) [(.t 5)], none⟩,
  ⟨some 7, .mov (.k (.c (.lit (.int .i64 0)))), none⟩])
 (.block 0 (.loop A90_l0)))
 (.seq (.reg [⟨some 2, .mov (.k (.c (.lit (.bool true)))), none⟩])
 (.ret))), true⟩
theorem C90 : compF Tryz.prog Tryz.f90 true = some A90 := by kernel_rfl

/- drayage/job.afterRight -/
def A91_l0 : ACode := .seq (.reg [⟨some 13, .gen (.binOp .lss 3 (.tmp 12) (.tmp 11) 3) 0, none⟩])
 (.seq (.cond (.t 13) (.skip) (.exit 0))
 (.seq (.block 1 (.seq (.reg [⟨some 14, .idx 2 none (.t 10) (.t 12), none⟩,
  ⟨some 15, .load (some 2) (.t 14), none⟩,
  ⟨some 4, .alloc [.c (.lit (.int .i64 0)), .c (.lit (.bool false))], none⟩,
  ⟨none, .store 2 (.t 4) (.t 15), none⟩])
 (.seq (.reg [⟨some 16, .fld 0 (.t 4), none⟩,
  ⟨some 17, .load none (.t 16), none⟩,
  ⟨some 18, .fld 0 (.t 1), none⟩,
  ⟨some 19, .load none (.t 18), none⟩,
  ⟨some 20, .gen (.binOp .sub 3 (.tmp 19) (.const (.int .i64 1)) 3) 3, none⟩,
  ⟨some 21, .call (.k (.c (.fn (.func 89) [] []))) [(.t 17), (.k (.c (.lit (.int .i64 1)))), (.t 20)], none⟩,
  ⟨some 22, .gen (.unOp .not 4 (.tmp 21)) 4, none⟩])
 (.cond (.t 22) (.seq (.reg [⟨some 2, .mov (.k (.c (.lit (.bool false)))), none⟩])
 (.ret)) (.skip)))))
 (.reg [⟨some 23, .gen (.binOp .add 3 (.tmp 12) (.const (.int .i64 1)) 3) 3, none⟩,
  ⟨some 12, .mov (.t 23), none⟩])))
def A91 : AFunc := ⟨1, 24, [(2, none)], .seq (.reg [⟨some 1, .box (.t 0), none⟩,
  ⟨some 2, .mov (.k (.c (.lit (.bool false)))), none⟩])
 (.seq (.seq (.reg [⟨some 5, .fld 9 (.t 1), none⟩,
  ⟨some 6, .load none (.t 5), none⟩,
  ⟨some 7, .len (.t 6), none⟩,
  ⟨some 8, .gen (.binOp .gtr 3 (.tmp 7) (.const (.int .i64 4)) 3) 4, none⟩])
 (.cond (.t 8) (.seq (.reg [⟨some 2, .mov (.k (.c (.lit (.bool false)))), none⟩])
 (.ret)) (.skip)))
 (.seq (.seq (.reg [⟨some 9, .fld 9 (.t 1), none⟩,
  ⟨some 10, .load none (.t 9), none⟩,
  ⟨some 11, .len (.t 10), none⟩,
  ⟨some 12, .mov (.k (.c (.lit (.int .i64 0)))), none⟩])
 (.block 0 (.loop A91_l0)))
 (.seq (.reg [⟨some 2, .mov (.k (.c (.lit (.bool true)))), none⟩])
 (.ret)))), true⟩
theorem C91 : compF Tryz.prog Tryz.f91 true = some A91 := by kernel_rfl

/- drayage/job.stateRight -/
def A92 : AFunc := ⟨1, 53, [(2, none)], .seq (.reg [⟨some 1, .box (.t 0), none⟩,
  ⟨some 2, .mov (.k (.c (.lit (.bool false)))), none⟩])
 (.seq (.block 0 (.seq (.reg [⟨some 4, .fld 10 (.t 1), none⟩,
  ⟨some 5, .load none (.t 4), none⟩,
  ⟨some 6, .call (.k (.c (.fn (.func 126) [] []))) [(.t 5)], none⟩,
  ⟨some 7, .gen (.binOp .eql 9 (.tmp 6) (.const (.string ⟨#[]⟩)) 9) 4, none⟩,
  ⟨some 3, .mov (.t 7), none⟩])
 (.cond (.t 3) (.seq (.reg [⟨some 2, .mov (.k (.c (.lit (.bool false)))), none⟩])
 (.ret)) (.seq (.reg [⟨some 9, .fld 15 (.t 1), none⟩,
  ⟨some 10, .load none (.t 9), none⟩,
  ⟨some 11, .gen (.binOp .neq 3 (.tmp 10) (.const (.int .i64 0)) 3) 4, none⟩,
  ⟨some 12, .mov (.t 11), none⟩,
  ⟨some 13, .fld 10 (.t 1), some (12, true)⟩,
  ⟨some 14, .load none (.t 13), some (12, true)⟩,
  ⟨some 15, .call (.k (.c (.fn (.func 39) [] []))) [(.t 14)], some (12, true)⟩,
  ⟨some 16, .pick (.t 12) (.t 15) (.k (.c (.lit (.bool false)))), none⟩,
  ⟨some 8, .mov (.t 16), none⟩])
 (.cond (.t 8) (.seq (.reg [⟨some 2, .mov (.k (.c (.lit (.bool false)))), none⟩])
 (.ret)) (.seq (.reg [⟨some 18, .fld 16 (.t 1), none⟩,
  ⟨some 19, .load none (.t 18), none⟩,
  ⟨some 20, .gen (.binOp .neq 3 (.tmp 19) (.const (.int .i64 0)) 3) 4, none⟩,
  ⟨some 21, .mov (.t 20), none⟩,
  ⟨some 22, .fld 10 (.t 1), some (21, true)⟩,
  ⟨some 23, .load none (.t 22), some (21, true)⟩,
  ⟨some 24, .call (.k (.c (.fn (.func 47) [] []))) [(.t 23)], some (21, true)⟩,
  ⟨some 25, .gen (.unOp .not 4 (.tmp 24)) 4, some (21, true)⟩,
  ⟨some 26, .pick (.t 21) (.t 25) (.k (.c (.lit (.bool false)))), none⟩,
  ⟨some 17, .mov (.t 26), none⟩])
 (.cond (.t 17) (.seq (.reg [⟨some 2, .mov (.k (.c (.lit (.bool false)))), none⟩])
 (.ret)) (.seq (.reg [⟨some 28, .fld 11 (.t 1), none⟩,
  ⟨some 29, .load none (.t 28), none⟩,
  ⟨some 30, .mov (.t 29), none⟩,
  ⟨some 31, .fld 10 (.t 1), some (30, true)⟩,
  ⟨some 32, .load none (.t 31), some (30, true)⟩,
  ⟨some 33, .gen (.binOp .neq 3 (.tmp 32) (.const (.int .i64 4)) 3) 4, some (30, true)⟩,
  ⟨some 34, .pick (.t 30) (.t 33) (.k (.c (.lit (.bool false)))), none⟩,
  ⟨some 35, .mov (.t 34), none⟩,
  ⟨some 36, .fld 10 (.t 1), some (35, true)⟩,
  ⟨some 37, .load none (.t 36), some (35, true)⟩,
  ⟨some 38, .gen (.binOp .neq 3 (.tmp 37) (.const (.int .i64 5)) 3) 4, some (35, true)⟩,
  ⟨some 39, .pick (.t 35) (.t 38) (.k (.c (.lit (.bool false)))), none⟩,
  ⟨some 27, .mov (.t 39), none⟩])
 (.cond (.t 27) (.seq (.reg [⟨some 2, .mov (.k (.c (.lit (.bool false)))), none⟩])
 (.ret)) (.seq (.reg [⟨some 41, .fld 12 (.t 1), none⟩,
  ⟨some 42, .load none (.t 41), none⟩,
  ⟨some 43, .mov (.t 42), none⟩,
  ⟨some 44, .fld 10 (.t 1), some (43, true)⟩,
  ⟨some 45, .load none (.t 44), some (43, true)⟩,
  ⟨some 46, .gen (.binOp .neq 3 (.tmp 45) (.const (.int .i64 4)) 3) 4, some (43, true)⟩,
  ⟨some 47, .pick (.t 43) (.t 46) (.k (.c (.lit (.bool false)))), none⟩,
  ⟨some 48, .mov (.t 47), none⟩,
  ⟨some 49, .fld 10 (.t 1), some (48, true)⟩,
  ⟨some 50, .load none (.t 49), some (48, true)⟩,
  ⟨some 51, .gen (.binOp .neq 3 (.tmp 50) (.const (.int .i64 6)) 3) 4, some (48, true)⟩,
  ⟨some 52, .pick (.t 48) (.t 51) (.k (.c (.lit (.bool false)))), none⟩,
  ⟨some 40, .mov (.t 52), none⟩])
 (.cond (.t 40) (.seq (.reg [⟨some 2, .mov (.k (.c (.lit (.bool false)))), none⟩])
 (.ret)) (.skip))))))))))))
 (.seq (.reg [⟨some 2, .mov (.k (.c (.lit (.bool true)))), none⟩])
 (.ret))), true⟩
theorem C92 : compF Tryz.prog Tryz.f92 true = some A92 := by kernel_rfl

/- slices.Insert[[]drayage/api.Job,drayage/api.Job] -/
def A93 : AFunc := ⟨3, 95, [(6, none)], .seq (.reg [⟨some 6, .mov (.k (.c (.lit (.slice none 0 0)))), none⟩])
 (.seq (.reg [⟨some 10, .mov (.t 0), none⟩,
  ⟨some 11, .mov (.t 1), none⟩,
  ⟨some 12, .slc 18 (.t 10) (some (.t 11)) none, none⟩])
 (.seq (.reg [⟨some 13, .mov (.t 2), none⟩,
  ⟨some 14, .len (.t 13), none⟩,
  ⟨some 7, .mov (.t 14), none⟩])
 (.seq (.seq (.reg [⟨some 15, .mov (.t 7), none⟩,
  ⟨some 16, .gen (.binOp .eql 3 (.tmp 15) (.const (.int .i64 0)) 3) 4, none⟩])
 (.cond (.t 16) (.seq (.reg [⟨some 17, .mov (.t 0), none⟩,
  ⟨some 6, .mov (.t 17), none⟩])
 (.ret)) (.skip)))
 (.seq (.reg [⟨some 18, .mov (.t 0), none⟩,
  ⟨some 19, .len (.t 18), none⟩,
  ⟨some 8, .mov (.t 19), none⟩])
 (.seq (.seq (.reg [⟨some 20, .mov (.t 1), none⟩,
  ⟨some 21, .mov (.t 8), none⟩,
  ⟨some 22, .gen (.binOp .eql 3 (.tmp 20) (.tmp 21) 3) 4, none⟩])
 (.cond (.t 22) (.seq (.reg [⟨some 23, .mov (.t 0), none⟩,
  ⟨some 24, .mov (.t 2), none⟩,
  ⟨some 25, .append 18 152 (.t 23) (.t 24), none⟩,
  ⟨some 6, .mov (.t 25), none⟩])
 (.ret)) (.skip)))
 (.seq (.seq (.stuck)
 (.cond (.t 31) (.seq (.stuck)
 (.seq (.reg [⟨some 41, .mov (.t 9), none⟩,
  ⟨some 42, .mov (.t 1), none⟩,
  ⟨some 43, .slc 18 (.t 41) (some (.t 42)) none, none⟩,
  ⟨some 44, .mov (.t 2), none⟩,
  ⟨some 45, .copy 18 (.t 43) (.t 44), none⟩])
 (.seq (.drw [⟨some 46, .mov (.t 9), none⟩,
  ⟨some 47, .mov (.t 1), none⟩,
  ⟨some 48, .mov (.t 7), none⟩,
  ⟨some 49, .gen (.binOp .add 3 (.tmp 47) (.tmp 48) 3) 3, none⟩,
  ⟨some 50, .slc 18 (.t 46) (some (.t 49)) none, none⟩,
  ⟨some 51, .mov (.t 0), none⟩,
  ⟨some 52, .mov (.t 1), none⟩,
  ⟨some 53, .slc 18 (.t 51) (some (.t 52)) none, none⟩,
  ⟨some 54, .copy 18 (.t 50) (.t 53), none⟩] [0, 0, 0, 6, 15, 0, 0, 96, 255] 9 3)
 (.seq (.reg [⟨some 55, .mov (.t 9), none⟩,
  ⟨some 6, .mov (.t 55), none⟩])
 (.ret))))) (.skip)))
 (.seq (.reg [⟨some 56, .mov (.t 0), none⟩,
  ⟨some 57, .mov (.t 8), none⟩,
  ⟨some 58, .mov (.t 7), none⟩,
  ⟨some 59, .gen (.binOp .add 3 (.tmp 57) (.tmp 58) 3) 3, none⟩,
  ⟨some 60, .slc 18 (.t 56) none (some (.t 59)), none⟩,
  ⟨some 0, .mov (.t 60), none⟩])
 (.seq (.seq (.reg [⟨some 61, .mov (.t 2), none⟩,
  ⟨some 62, .mov (.t 0), none⟩,
  ⟨some 63, .mov (.t 1), none⟩,
  ⟨some 64, .mov (.t 7), none⟩,
  ⟨some 65, .gen (.binOp .add 3 (.tmp 63) (.tmp 64) 3) 3, none⟩,
  ⟨some 66, .slc 18 (.t 62) (some (.t 65)) none, none⟩,
  ⟨some 67, .call (.k (.c (.fn (.func 127) [] []))) [(.t 61), (.t 66)], none⟩,
  ⟨some 68, .gen (.unOp .not 4 (.tmp 67)) 4, none⟩])
 (.cond (.t 68) (.seq (.drw [⟨some 69, .mov (.t 0), none⟩,
  ⟨some 70, .mov (.t 1), none⟩,
  ⟨some 71, .mov (.t 7), none⟩,
  ⟨some 72, .gen (.binOp .add 3 (.tmp 70) (.tmp 71) 3) 3, none⟩,
  ⟨some 73, .slc 18 (.t 69) (some (.t 72)) none, none⟩,
  ⟨some 74, .mov (.t 0), none⟩,
  ⟨some 75, .mov (.t 1), none⟩,
  ⟨some 76, .slc 18 (.t 74) (some (.t 75)) none, none⟩,
  ⟨some 77, .copy 18 (.t 73) (.t 76), none⟩] [0, 0, 0, 6, 15, 0, 0, 96, 255] 9 3)
 (.seq (.reg [⟨some 78, .mov (.t 0), none⟩,
  ⟨some 79, .mov (.t 1), none⟩,
  ⟨some 80, .slc 18 (.t 78) (some (.t 79)) none, none⟩,
  ⟨some 81, .mov (.t 2), none⟩,
  ⟨some 82, .copy 18 (.t 80) (.t 81), none⟩])
 (.seq (.reg [⟨some 83, .mov (.t 0), none⟩,
  ⟨some 6, .mov (.t 83), none⟩])
 (.ret)))) (.skip)))
 (.seq (.reg [⟨some 84, .mov (.t 0), none⟩,
  ⟨some 85, .mov (.t 8), none⟩,
  ⟨some 86, .slc 18 (.t 84) (some (.t 85)) none, none⟩,
  ⟨some 87, .mov (.t 2), none⟩,
  ⟨some 88, .copy 18 (.t 86) (.t 87), none⟩])
 (.seq (.reg [⟨some 89, .mov (.t 0), none⟩,
  ⟨some 90, .mov (.t 1), none⟩,
  ⟨some 91, .slc 18 (.t 89) (some (.t 90)) none, none⟩,
  ⟨some 92, .mov (.t 7), none⟩,
  ⟨some 93, .call (.k (.c (.fn (.func 128) [] []))) [(.t 91), (.t 92)], none⟩])
 (.seq (.reg [⟨some 94, .mov (.t 0), none⟩,
  ⟨some 6, .mov (.t 94), none⟩])
 (.ret)))))))))))), true⟩
theorem C93 : compF Tryz.prog Tryz.f93 true = some A93 := by kernel_rfl

/- slices.Contains[[]int,int] -/
def A100 : AFunc := ⟨2, 9, [(4, none)], .seq (.reg [⟨some 4, .mov (.k (.c (.lit (.bool false)))), none⟩])
 (.seq (.reg [⟨some 5, .mov (.t 0), none⟩,
  ⟨some 6, .mov (.t 1), none⟩,
  ⟨some 7, .call (.k (.c (.fn (.func 131) [] []))) [(.t 5), (.t 6)], none⟩,
  ⟨some 8, .gen (.binOp .geq 3 (.tmp 7) (.const (.int .i64 0)) 3) 4, none⟩,
  ⟨some 4, .mov (.t 8), none⟩])
 (.ret)), true⟩
theorem C100 : compF Tryz.prog Tryz.f100 true = some A100 := by kernel_rfl

/- drayage/ledger.own -/
def A102 : AFunc := ⟨1, 8, [(2, some (some 6))], .seq (.reg [⟨some 1, .box (.t 0), none⟩,
  ⟨some 2, .alloc [.c (.lit (.int .i64 0)), .c (.lit (.int .i64 0)), .c (.lit (.int .i64 0)), .c (.lit (.int .i64 0)), .c (.lit (.int .i64 0)), .c (.lit (.slice none 0 0))], none⟩])
 (.seq (.reg [⟨some 3, .fld 5 (.t 1), none⟩,
  ⟨some 4, .load none (.t 3), none⟩,
  ⟨some 5, .call (.k (.c (.fn (.func 132) [] []))) [(.t 4)], none⟩,
  ⟨some 6, .fld 5 (.t 1), none⟩,
  ⟨none, .store 1 (.t 6) (.t 5), none⟩])
 (.seq (.reg [⟨some 7, .load (some 6) (.t 1), none⟩,
  ⟨none, .store 6 (.t 2) (.t 7), none⟩])
 (.ret))), true⟩
theorem C102 : compF Tryz.prog Tryz.f102 true = some A102 := by kernel_rfl

/- slices.Clone[[]drayage/api.Job,drayage/api.Job] -/
def A103 : AFunc := ⟨1, 8, [(2, none)], .seq (.reg [⟨some 2, .mov (.k (.c (.lit (.slice none 0 0)))), none⟩])
 (.seq (.seq (.reg [⟨some 3, .mov (.t 0), none⟩,
  ⟨some 4, .isnil 3 false (.t 3), none⟩])
 (.cond (.t 4) (.seq (.reg [⟨some 2, .mov (.k (.c (.lit (.slice none 0 0)))), none⟩])
 (.ret)) (.skip)))
 (.seq (.reg [⟨some 5, .bslice 18 0 [.c (.lit (.int .i64 0)), .c (.lit (.int .i64 0)), .c (.lit (.int .i64 0)), .c (.lit (.int .i64 0)), .c (.lit (.int .i64 0)), .c (.lit (.int .i64 0)), .c (.lit (.int .i64 0)), .c (.lit (.int .i64 0)), .c (.lit (.int .i64 0)), .c (.lit (.slice none 0 0)), .c (.lit (.int .i64 0)), .c (.lit (.bool false)), .c (.lit (.bool false)), .c (.lit (.int .i64 0)), .c (.lit (.int .i64 0)), .c (.lit (.int .i64 0)), .c (.lit (.int .i64 0)), .c (.lit (.int .i64 0))] [], none⟩,
  ⟨some 6, .mov (.t 0), none⟩,
  ⟨some 7, .append 18 152 (.t 5) (.t 6), none⟩,
  ⟨some 2, .mov (.t 7), none⟩])
 (.ret))), true⟩
theorem C103 : compF Tryz.prog Tryz.f103 true = some A103 := by kernel_rfl

/- slices.Clone[[]drayage/api.Res,drayage/api.Res] -/
def A105 : AFunc := ⟨1, 8, [(2, none)], .seq (.reg [⟨some 2, .mov (.k (.c (.lit (.slice none 0 0)))), none⟩])
 (.seq (.seq (.reg [⟨some 3, .mov (.t 0), none⟩,
  ⟨some 4, .isnil 3 false (.t 3), none⟩])
 (.cond (.t 4) (.seq (.reg [⟨some 2, .mov (.k (.c (.lit (.slice none 0 0)))), none⟩])
 (.ret)) (.skip)))
 (.seq (.reg [⟨some 5, .bslice 4 0 [.c (.lit (.int .i64 0)), .c (.lit (.int .i64 0)), .c (.lit (.int .i64 0)), .c (.lit (.int .i64 0))] [], none⟩,
  ⟨some 6, .mov (.t 0), none⟩,
  ⟨some 7, .append 4 32 (.t 5) (.t 6), none⟩,
  ⟨some 2, .mov (.t 7), none⟩])
 (.ret))), true⟩
theorem C105 : compF Tryz.prog Tryz.f105 true = some A105 := by kernel_rfl

/- slices.Sorted[int] -/
def A109 : AFunc := ⟨1, 9, [(2, none)], .seq (.reg [⟨some 2, .mov (.k (.c (.lit (.slice none 0 0)))), none⟩])
 (.seq (.reg [⟨some 4, .mov (.t 0), none⟩,
  ⟨some 5, .call (.k (.c (.fn (.func 134) [] []))) [(.t 4)], none⟩,
  ⟨some 3, .mov (.t 5), none⟩])
 (.seq (.reg [⟨some 6, .mov (.t 3), none⟩,
  ⟨some 7, .call (.k (.c (.fn (.func 135) [] []))) [(.t 6)], none⟩])
 (.seq (.reg [⟨some 8, .mov (.t 3), none⟩,
  ⟨some 2, .mov (.t 8), none⟩])
 (.ret)))), true⟩
theorem C109 : compF Tryz.prog Tryz.f109 true = some A109 := by kernel_rfl

/- maps.Keys[map[int]drayage/api.Alloc,int,drayage/api.Alloc] -/
def A110 : AFunc := ⟨1, 4, [(2, none)], .seq (.reg [⟨some 1, .box (.t 0), none⟩,
  ⟨some 2, .mov (.k (.c (.lit (.nilFunc)))), none⟩])
 (.seq (.reg [⟨some 3, .mkfn (.func 136) [] [(.t 1)], none⟩,
  ⟨some 2, .mov (.t 3), none⟩])
 (.ret)), true⟩
theorem C110 : compF Tryz.prog Tryz.f110 true = some A110 := by kernel_rfl

/- slices.Clone[[][]int,[]int] -/
def A111 : AFunc := ⟨1, 8, [(2, none)], .seq (.reg [⟨some 2, .mov (.k (.c (.lit (.slice none 0 0)))), none⟩])
 (.seq (.seq (.reg [⟨some 3, .mov (.t 0), none⟩,
  ⟨some 4, .isnil 3 false (.t 3), none⟩])
 (.cond (.t 4) (.seq (.reg [⟨some 2, .mov (.k (.c (.lit (.slice none 0 0)))), none⟩])
 (.ret)) (.skip)))
 (.seq (.reg [⟨some 5, .bslice 1 0 [.c (.lit (.slice none 0 0))] [], none⟩,
  ⟨some 6, .mov (.t 0), none⟩,
  ⟨some 7, .append 1 24 (.t 5) (.t 6), none⟩,
  ⟨some 2, .mov (.t 7), none⟩])
 (.ret))), true⟩
theorem C111 : compF Tryz.prog Tryz.f111 true = some A111 := by kernel_rfl

/- slices.Clone[[]drayage/api.Queue,drayage/api.Queue] -/
def A112 : AFunc := ⟨1, 8, [(2, none)], .seq (.reg [⟨some 2, .mov (.k (.c (.lit (.slice none 0 0)))), none⟩])
 (.seq (.seq (.reg [⟨some 3, .mov (.t 0), none⟩,
  ⟨some 4, .isnil 3 false (.t 3), none⟩])
 (.cond (.t 4) (.seq (.reg [⟨some 2, .mov (.k (.c (.lit (.slice none 0 0)))), none⟩])
 (.ret)) (.skip)))
 (.seq (.reg [⟨some 5, .bslice 6 0 [.c (.lit (.int .i64 0)), .c (.lit (.slice none 0 0)), .c (.lit (.int .i64 0)), .c (.lit (.int .i64 0)), .c (.lit (.int .i64 0)), .c (.lit (.int .i64 0))] [], none⟩,
  ⟨some 6, .mov (.t 0), none⟩,
  ⟨some 7, .append 6 64 (.t 5) (.t 6), none⟩,
  ⟨some 2, .mov (.t 7), none⟩])
 (.ret))), true⟩
theorem C112 : compF Tryz.prog Tryz.f112 true = some A112 := by kernel_rfl

/- drayage/spec.Flaw -/
def A113_l0 : ACode := .seq (.reg [⟨some 9, .gen (.binOp .lss 3 (.tmp 8) (.tmp 7) 3) 0, none⟩])
 (.seq (.cond (.t 9) (.skip) (.exit 0))
 (.seq (.block 1 (.seq (.reg [⟨some 10, .idx 2 none (.t 6) (.t 8), none⟩,
  ⟨some 11, .load (some 2) (.t 10), none⟩,
  ⟨some 4, .alloc [.c (.lit (.string ⟨#[]⟩)), .c (.lit .nilFunc)], none⟩,
  ⟨none, .store 2 (.t 4) (.t 11), none⟩])
 (.seq (.reg [⟨some 12, .fld 1 (.t 4), none⟩,
  ⟨some 13, .load none (.t 12), none⟩,
  ⟨some 14, .call (.t 13) [], none⟩,
  ⟨some 15, .gen (.unOp .not 4 (.tmp 14)) 4, none⟩])
 (.cond (.t 15) (.seq (.reg [⟨some 16, .fld 0 (.t 4), none⟩,
  ⟨some 17, .load none (.t 16), none⟩,
  ⟨some 2, .mov (.t 17), none⟩])
 (.ret)) (.skip)))))
 (.reg [⟨some 18, .gen (.binOp .add 3 (.tmp 8) (.const (.int .i64 1)) 3) 3, none⟩,
  ⟨some 8, .mov (.t 18), none⟩])))
def A113 : AFunc := ⟨1, 19, [(2, none)], .seq (.reg [⟨some 1, .box (.t 0), none⟩,
  ⟨some 2, .mov (.k (.c (.lit (.string ⟨#[]⟩)))), none⟩])
 (.seq (.seq (.reg [⟨some 5, .load (some 18) (.t 1), none⟩,
  ⟨some 6, .call (.k (.c (.fn (.func 137) [] []))) [(.t 5)], none⟩,
  ⟨some 7, .len (.t 6), none⟩,
  ⟨some 8, .mov (.k (.c (.lit (.int .i64 0)))), none⟩])
 (.block 0 (.loop A113_l0)))
 (.seq (.reg [⟨some 2, .mov (.k (.c (.lit (.string ⟨#[]⟩)))), none⟩])
 (.ret))), true⟩
theorem C113 : compF Tryz.prog Tryz.f113 true = some A113 := by kernel_rfl

/- drayage/nat.Hold[int] -/
def A114 : AFunc := ⟨3, 16, [(6, none)], .seq (.reg [⟨some 6, .mov (.k (.c (.lit (.int .i64 0)))), none⟩])
 (.seq (.seq (.reg [⟨some 7, .mov (.t 0), none⟩,
  ⟨some 8, .mov (.t 1), none⟩,
  ⟨some 9, .gen (.binOp .lss 3 (.tmp 7) (.tmp 8) 3) 4, none⟩])
 (.cond (.t 9) (.seq (.reg [⟨some 10, .mov (.t 1), none⟩,
  ⟨some 6, .mov (.t 10), none⟩])
 (.ret)) (.skip)))
 (.seq (.seq (.reg [⟨some 11, .mov (.t 0), none⟩,
  ⟨some 12, .mov (.t 2), none⟩,
  ⟨some 13, .gen (.binOp .gtr 3 (.tmp 11) (.tmp 12) 3) 4, none⟩])
 (.cond (.t 13) (.seq (.reg [⟨some 14, .mov (.t 2), none⟩,
  ⟨some 6, .mov (.t 14), none⟩])
 (.ret)) (.skip)))
 (.seq (.reg [⟨some 15, .mov (.t 0), none⟩,
  ⟨some 6, .mov (.t 15), none⟩])
 (.ret)))), true⟩
theorem C114 : compF Tryz.prog Tryz.f114 true = some A114 := by kernel_rfl

/- drayage/spec.Allowed -/
def A115 : AFunc := ⟨3, 46, [(6, none)], .seq (.reg [⟨some 3, .box (.t 0), none⟩,
  ⟨some 6, .mov (.k (.c (.lit (.bool false)))), none⟩])
 (.seq (.seq (.reg [⟨some 8, .load (some 18) (.t 3), none⟩,
  ⟨some 9, .call (.k (.c (.fn (.func 64) [] []))) [(.t 8)], none⟩,
  ⟨some 10, .gen (.unOp .not 4 (.tmp 9)) 4, none⟩,
  ⟨some 11, .mov (.t 10), none⟩,
  ⟨some 12, .mov (.t 1), some (11, false)⟩,
  ⟨some 13, .gen (.binOp .lss 3 (.tmp 12) (.const (.int .i64 0)) 3) 4, some (11, false)⟩,
  ⟨some 14, .pick (.t 11) (.k (.c (.lit (.bool true)))) (.t 13), none⟩,
  ⟨some 15, .mov (.t 14), none⟩,
  ⟨some 16, .mov (.t 1), some (15, false)⟩,
  ⟨some 17, .fld 2 (.t 3), some (15, false)⟩,
  ⟨some 18, .load none (.t 17), some (15, false)⟩,
  ⟨some 19, .len (.t 18), some (15, false)⟩,
  ⟨some 20, .gen (.binOp .geq 3 (.tmp 16) (.tmp 19) 3) 4, some (15, false)⟩,
  ⟨some 21, .pick (.t 15) (.k (.c (.lit (.bool true)))) (.t 20), none⟩,
  ⟨some 22, .mov (.t 21), none⟩,
  ⟨some 23, .mov (.t 2), some (22, false)⟩,
  ⟨some 24, .gen (.binOp .lss 3 (.tmp 23) (.const (.int .i64 0)) 3) 4, some (22, false)⟩,
  ⟨some 25, .pick (.t 22) (.k (.c (.lit (.bool true)))) (.t 24), none⟩,
  ⟨some 26, .mov (.t 25), none⟩,
  ⟨some 27, .mov (.t 2), some (26, false)⟩,
  ⟨some 28, .fld 3 (.t 3), some (26, false)⟩,
  ⟨some 29, .load none (.t 28), some (26, false)⟩,
  ⟨some 30, .gen (.binOp .geq 3 (.tmp 27) (.tmp 29) 3) 4, some (26, false)⟩,
  ⟨some 31, .pick (.t 26) (.k (.c (.lit (.bool true)))) (.t 30), none⟩])
 (.cond (.t 31) (.seq (.reg [⟨some 6, .mov (.k (.c (.lit (.bool false)))), none⟩])
 (.ret)) (.skip)))
 (.seq (.reg [⟨some 32, .fld 2 (.t 3), none⟩,
  ⟨some 33, .load none (.t 32), none⟩,
  ⟨some 34, .mov (.t 1), none⟩,
  ⟨some 35, .idx 6 none (.t 33) (.t 34), none⟩,
  ⟨some 36, .fld 1 (.t 35), none⟩,
  ⟨some 37, .load none (.t 36), none⟩,
  ⟨some 7, .mov (.t 37), none⟩])
 (.seq (.reg [⟨some 38, .mov (.t 7), none⟩,
  ⟨some 39, .len (.t 38), none⟩,
  ⟨some 40, .gen (.binOp .eql 3 (.tmp 39) (.const (.int .i64 0)) 3) 4, none⟩,
  ⟨some 41, .mov (.t 40), none⟩,
  ⟨some 42, .mov (.t 7), some (41, false)⟩,
  ⟨some 43, .mov (.t 2), some (41, false)⟩,
  ⟨some 44, .call (.k (.c (.fn (.func 100) [] []))) [(.t 42), (.t 43)], some (41, false)⟩,
  ⟨some 45, .pick (.t 41) (.k (.c (.lit (.bool true)))) (.t 44), none⟩,
  ⟨some 6, .mov (.t 45), none⟩])
 (.ret)))), true⟩
theorem C115 : compF Tryz.prog Tryz.f115 true = some A115 := by kernel_rfl

/- drayage/vec.Times -/
def A116 : AFunc := ⟨2, 40, [(4, some (some 4)), (5, none)], .seq (.reg [⟨some 2, .box (.t 0), none⟩,
  ⟨some 4, .alloc [.c (.lit (.int .i64 0)), .c (.lit (.int .i64 0)), .c (.lit (.int .i64 0)), .c (.lit (.int .i64 0))], none⟩,
  ⟨some 5, .mov (.k (.c (.lit (.int .i64 0)))), none⟩])
 (.seq (.seq (.reg [⟨some 8, .load (some 4) (.t 2), none⟩,
  ⟨some 9, .call (.k (.c (.fn (.func 90) [] []))) [(.t 8)], none⟩,
  ⟨some 10, .gen (.unOp .not 4 (.tmp 9)) 4, none⟩,
  ⟨some 11, .mov (.t 10), none⟩,
  ⟨some 12, .mov (.t 1), some (11, false)⟩,
  ⟨some 13, .gen (.binOp .lss 3 (.tmp 12) (.const (.int .i64 0)) 3) 4, some (11, false)⟩,
  ⟨some 14, .pick (.t 11) (.k (.c (.lit (.bool true)))) (.t 13), none⟩])
 (.cond (.t 14) (.seq (.reg [⟨some 15, .build [.c (.lit (.int .i64 0)), .c (.lit (.int .i64 0)), .c (.lit (.int .i64 0)), .c (.lit (.int .i64 0))] [], none⟩,
  ⟨none, .store 4 (.t 4) (.t 15), none⟩,
  ⟨some 5, .mov (.k (.c (.lit (.int .i64 2)))), none⟩])
 (.ret)) (.skip)))
 (.seq (.seq (.reg [⟨some 16, .load (some 4) (.t 2), none⟩,
  ⟨some 17, .build [.c (.lit (.int .i64 0)), .c (.lit (.int .i64 0)), .c (.lit (.int .i64 0)), .c (.lit (.int .i64 0))] [], none⟩,
  ⟨some 18, .gen (.binOp .eql 23 (.tmp 16) (.tmp 17) 23) 4, none⟩])
 (.cond (.t 18) (.seq (.reg [⟨some 19, .build [.c (.lit (.int .i64 0)), .c (.lit (.int .i64 0)), .c (.lit (.int .i64 0)), .c (.lit (.int .i64 0))] [], none⟩,
  ⟨none, .store 4 (.t 4) (.t 19), none⟩,
  ⟨some 5, .mov (.k (.c (.lit (.int .i64 0)))), none⟩])
 (.ret)) (.skip)))
 (.seq (.seq (.reg [⟨some 20, .mov (.t 1), none⟩,
  ⟨some 21, .gen (.binOp .gtr 3 (.tmp 20) (.const (.int .i64 1048576)) 3) 4, none⟩])
 (.cond (.t 21) (.seq (.reg [⟨some 22, .build [.c (.lit (.int .i64 0)), .c (.lit (.int .i64 0)), .c (.lit (.int .i64 0)), .c (.lit (.int .i64 0))] [], none⟩,
  ⟨none, .store 4 (.t 4) (.t 22), none⟩,
  ⟨some 5, .mov (.k (.c (.lit (.int .i64 20)))), none⟩])
 (.ret)) (.skip)))
 (.seq (.reg [⟨some 23, .load (some 4) (.t 2), none⟩,
  ⟨some 24, .call (.k (.c (.fn (.func 129) [] []))) [(.t 23)], none⟩,
  ⟨some 25, .mov (.t 1), none⟩,
  ⟨some 26, .gen (.convert 3 201 (.tmp 25)) 201, none⟩,
  ⟨some 27, .gen (.call ⟨.builtin .complex, #[(.tmp 26), (.const (.float .f64 0))], #[201, 201]⟩) 188, none⟩,
  ⟨some 6, .alloc [.c (.lit (.complex .f64 0 0)), .c (.lit (.complex .f64 0 0))], none⟩,
  ⟨none, .store 2 (.t 6) (.t 24), none⟩,
  ⟨some 7, .mov (.t 27), none⟩])
 (.seq (.reg [⟨some 28, .idx 1 (some 2) (.t 6) (.k (.c (.lit (.int .i64 0)))), none⟩,
  ⟨some 29, .load none (.t 28), none⟩,
  ⟨some 30, .mov (.t 7), none⟩,
  ⟨some 31, .gen (.binOp .mul 188 (.tmp 29) (.tmp 30) 188) 188, none⟩,
  ⟨some 32, .idx 1 (some 2) (.t 6) (.k (.c (.lit (.int .i64 1)))), none⟩,
  ⟨some 33, .load none (.t 32), none⟩,
  ⟨some 34, .mov (.t 7), none⟩,
  ⟨some 35, .gen (.binOp .mul 188 (.tmp 33) (.tmp 34) 188) 188, none⟩,
  ⟨some 36, .build [.c (.lit (.complex .f64 0 0)), .c (.lit (.complex .f64 0 0))] [(0, 1, (.t 31)), (1, 1, (.t 35))], none⟩,
  ⟨some 37, .call (.k (.c (.fn (.func 130) [] []))) [(.t 36)], none⟩,
  ⟨some 38, .extract (.t 37) 0, none⟩,
  ⟨some 39, .extract (.t 37) 1, none⟩,
  ⟨none, .store 4 (.t 4) (.t 38), none⟩,
  ⟨some 5, .mov (.t 39), none⟩])
 (.ret)))))), true⟩
theorem C116 : compF Tryz.prog Tryz.f116 true = some A116 := by kernel_rfl

/- drayage/spec.Fits -/
def A117 : AFunc := ⟨4, 38, [(8, none)], .seq (.reg [⟨some 4, .box (.t 0), none⟩,
  ⟨some 7, .box (.t 3), none⟩,
  ⟨some 8, .mov (.k (.c (.lit (.bool false)))), none⟩])
 (.seq (.seq (.reg [⟨some 9, .load (some 18) (.t 4), none⟩,
  ⟨some 10, .call (.k (.c (.fn (.func 64) [] []))) [(.t 9)], none⟩,
  ⟨some 11, .gen (.unOp .not 4 (.tmp 10)) 4, none⟩,
  ⟨some 12, .mov (.t 11), none⟩,
  ⟨some 13, .mov (.t 1), some (12, false)⟩,
  ⟨some 14, .gen (.binOp .lss 3 (.tmp 13) (.const (.int .i64 0)) 3) 4, some (12, false)⟩,
  ⟨some 15, .pick (.t 12) (.k (.c (.lit (.bool true)))) (.t 14), none⟩,
  ⟨some 16, .mov (.t 15), none⟩,
  ⟨some 17, .mov (.t 1), some (16, false)⟩,
  ⟨some 18, .fld 2 (.t 4), some (16, false)⟩,
  ⟨some 19, .load none (.t 18), some (16, false)⟩,
  ⟨some 20, .len (.t 19), some (16, false)⟩,
  ⟨some 21, .gen (.binOp .geq 3 (.tmp 17) (.tmp 20) 3) 4, some (16, false)⟩,
  ⟨some 22, .pick (.t 16) (.k (.c (.lit (.bool true)))) (.t 21), none⟩,
  ⟨some 23, .mov (.t 22), none⟩,
  ⟨some 24, .mov (.t 2), some (23, false)⟩,
  ⟨some 25, .gen (.binOp .lss 3 (.tmp 24) (.const (.int .i64 1)) 3) 4, some (23, false)⟩,
  ⟨some 26, .pick (.t 23) (.k (.c (.lit (.bool true)))) (.t 25), none⟩])
 (.cond (.t 26) (.seq (.reg [⟨some 8, .mov (.k (.c (.lit (.bool false)))), none⟩])
 (.ret)) (.skip)))
 (.seq (.drw [⟨some 27, .load (some 18) (.t 4), none⟩,
  ⟨some 28, .fld 2 (.t 4), none⟩,
  ⟨some 29, .load none (.t 28), none⟩,
  ⟨some 30, .mov (.t 1), none⟩,
  ⟨some 31, .idx 6 none (.t 29) (.t 30), none⟩,
  ⟨some 32, .fld 0 (.t 31), none⟩,
  ⟨some 33, .load none (.t 32), none⟩,
  ⟨some 34, .load (some 4) (.t 7), none⟩,
  ⟨some 35, .call (.k (.c (.fn (.func 138) [] []))) [(.t 27), (.t 33), (.t 34)], none⟩,
  ⟨some 36, .mov (.t 2), none⟩,
  ⟨some 37, .gen (.binOp .geq 3 (.tmp 35) (.tmp 36) 3) 4, none⟩,
  ⟨some 8, .mov (.t 37), none⟩] [0, 0, 2, 0, 14, 30, 62, 0, 255, 0, 1023, 2047] 12 0)
 (.ret))), true⟩
theorem C117 : compF Tryz.prog Tryz.f117 true = some A117 := by kernel_rfl

/- drayage/quota.Room -/
def A118 : AFunc := ⟨4, 33, [(8, none)], .seq (.reg [⟨some 4, .box (.t 0), none⟩,
  ⟨some 8, .mov (.k (.c (.lit (.bool false)))), none⟩])
 (.seq (.seq (.reg [⟨some 9, .load (some 18) (.t 4), none⟩,
  ⟨some 10, .mov (.t 2), none⟩,
  ⟨some 11, .call (.k (.c (.fn (.func 139) [] []))) [(.t 9), (.t 10)], none⟩,
  ⟨some 12, .gen (.unOp .not 4 (.tmp 11)) 4, none⟩,
  ⟨some 13, .mov (.t 12), none⟩,
  ⟨some 14, .mov (.t 3), some (13, false)⟩,
  ⟨some 15, .gen (.binOp .lss 3 (.tmp 14) (.const (.int .i64 0)) 3) 4, some (13, false)⟩,
  ⟨some 16, .pick (.t 13) (.k (.c (.lit (.bool true)))) (.t 15), none⟩,
  ⟨some 17, .mov (.t 16), none⟩,
  ⟨some 18, .mov (.t 3), some (17, false)⟩,
  ⟨some 19, .gen (.binOp .gtr 3 (.tmp 18) (.const (.int .i64 256)) 3) 4, some (17, false)⟩,
  ⟨some 20, .pick (.t 17) (.k (.c (.lit (.bool true)))) (.t 19), none⟩])
 (.cond (.t 20) (.seq (.reg [⟨some 8, .mov (.k (.c (.lit (.bool false)))), none⟩])
 (.ret)) (.skip)))
 (.seq (.drw [⟨some 21, .mov (.t 1), none⟩,
  ⟨some 22, .mov (.t 2), none⟩,
  ⟨some 23, .call (.k (.c (.fn (.func 140) [] []))) [(.t 21), (.t 22)], none⟩,
  ⟨some 24, .mov (.t 3), none⟩,
  ⟨some 25, .gen (.binOp .add 3 (.tmp 23) (.tmp 24) 3) 3, none⟩,
  ⟨some 26, .fld 2 (.t 4), none⟩,
  ⟨some 27, .load none (.t 26), none⟩,
  ⟨some 28, .mov (.t 2), none⟩,
  ⟨some 29, .idx 6 none (.t 27) (.t 28), none⟩,
  ⟨some 30, .fld 2 (.t 29), none⟩,
  ⟨some 31, .load none (.t 30), none⟩,
  ⟨some 32, .gen (.binOp .leq 3 (.tmp 25) (.tmp 31) 3) 4, none⟩,
  ⟨some 8, .mov (.t 32), none⟩] [0, 0, 3, 0, 15, 0, 32, 0, 224, 480, 992, 2047, 4095] 13 2)
 (.ret))), true⟩
theorem C118 : compF Tryz.prog Tryz.f118 true = some A118 := by kernel_rfl

/- sort.Search -/
def A123_l0 : ACode := .seq (.seq (.reg [⟨some 9, .mov (.t 5), none⟩,
  ⟨some 10, .mov (.t 6), none⟩,
  ⟨some 11, .gen (.binOp .lss 3 (.tmp 9) (.tmp 10) 3) 4, none⟩])
 (.cond (.t 11) (.skip) (.exit 0)))
 (.block 1 (.seq (.reg [⟨some 12, .mov (.t 5), none⟩,
  ⟨some 13, .mov (.t 6), none⟩,
  ⟨some 14, .gen (.binOp .add 3 (.tmp 12) (.tmp 13) 3) 3, none⟩,
  ⟨some 15, .gen (.convert 3 207 (.tmp 14)) 207, none⟩,
  ⟨some 16, .gen (.binOp .shr 207 (.tmp 15) (.const (.int .u64 1)) 207) 207, none⟩,
  ⟨some 17, .gen (.convert 207 3 (.tmp 16)) 3, none⟩,
  ⟨some 7, .mov (.t 17), none⟩])
 (.seq (.reg [⟨some 18, .mov (.t 1), none⟩,
  ⟨some 19, .mov (.t 7), none⟩,
  ⟨some 20, .call (.t 18) [(.t 19)], none⟩,
  ⟨some 21, .gen (.unOp .not 4 (.tmp 20)) 4, none⟩])
 (.cond (.t 21) (.reg [⟨some 22, .mov (.t 7), none⟩,
  ⟨some 23, .gen (.binOp .add 3 (.tmp 22) (.const (.int .i64 1)) 3) 3, none⟩,
  ⟨some 5, .mov (.t 23), none⟩]) (.reg [⟨some 24, .mov (.t 7), none⟩,
  ⟨some 6, .mov (.t 24), none⟩])))))
def A123 : AFunc := ⟨2, 26, [(4, none)], .seq (.reg [⟨some 4, .mov (.k (.c (.lit (.int .i64 0)))), none⟩])
 (.seq (.reg [⟨some 8, .mov (.t 0), none⟩,
  ⟨some 5, .mov (.k (.c (.lit (.int .i64 0)))), none⟩,
  ⟨some 6, .mov (.t 8), none⟩])
 (.seq (.block 0 (.loop A123_l0))
 (.seq (.reg [⟨some 25, .mov (.t 5), none⟩,
  ⟨some 4, .mov (.t 25), none⟩])
 (.ret)))), true⟩
theorem C123 : compF Tryz.prog Tryz.f123 true = some A123 := by kernel_rfl

/- (*drayage/table.Table).find$1 -/
def A124 : AFunc := ⟨3, 15, [(4, none)], .seq (.reg [⟨some 4, .mov (.k (.c (.lit (.bool false)))), none⟩])
 (.seq (.drw [⟨some 5, .load none (.t 1), none⟩,
  ⟨some 6, .nilck (.t 5), none⟩,
  ⟨some 7, .fld 1 (.t 6), none⟩,
  ⟨some 8, .load none (.t 7), none⟩,
  ⟨some 9, .mov (.t 0), none⟩,
  ⟨some 10, .idx 18 none (.t 8) (.t 9), none⟩,
  ⟨some 11, .fld 0 (.t 10), none⟩,
  ⟨some 12, .load none (.t 11), none⟩,
  ⟨some 13, .load none (.t 2), none⟩,
  ⟨some 14, .gen (.binOp .geq 3 (.tmp 12) (.tmp 13) 3) 4, none⟩,
  ⟨some 4, .mov (.t 14), none⟩] [0, 1, 3, 7, 0, 31, 63, 127, 0, 511, 1023] 11 0)
 (.ret)), true⟩
theorem C124 : compF Tryz.prog Tryz.f124 true = some A124 := by kernel_rfl

/- drayage/vec.numbers -/
def A125 : AFunc := ⟨1, 12, [(2, some (some 4))], .seq (.reg [⟨some 1, .box (.t 0), none⟩,
  ⟨some 2, .alloc [.c (.lit (.int .i64 0)), .c (.lit (.int .i64 0)), .c (.lit (.int .i64 0)), .c (.lit (.int .i64 0))], none⟩])
 (.seq (.reg [⟨some 3, .fld 0 (.t 1), none⟩,
  ⟨some 4, .load none (.t 3), none⟩,
  ⟨some 5, .fld 1 (.t 1), none⟩,
  ⟨some 6, .load none (.t 5), none⟩,
  ⟨some 7, .fld 2 (.t 1), none⟩,
  ⟨some 8, .load none (.t 7), none⟩,
  ⟨some 9, .fld 3 (.t 1), none⟩,
  ⟨some 10, .load none (.t 9), none⟩,
  ⟨some 11, .build [.c (.lit (.int .i64 0)), .c (.lit (.int .i64 0)), .c (.lit (.int .i64 0)), .c (.lit (.int .i64 0))] [(0, 1, (.t 4)), (1, 1, (.t 6)), (2, 1, (.t 8)), (3, 1, (.t 10))], none⟩,
  ⟨none, .store 4 (.t 2) (.t 11), none⟩])
 (.ret)), true⟩
theorem C125 : compF Tryz.prog Tryz.f125 true = some A125 := by kernel_rfl

/- drayage/life.Name -/
def A126 : AFunc := ⟨1, 16, [(2, none)], .seq (.reg [⟨some 2, .mov (.k (.c (.lit (.string ⟨#[]⟩)))), none⟩])
 (.seq (.seq (.reg [⟨some 3, .mov (.t 0), none⟩])
 (.block 0 (.seq (.reg [⟨some 5, .gen (.binOp .eql 3 (.tmp 3) (.const (.int .i64 1)) 3) 4, none⟩,
  ⟨some 4, .mov (.t 5), none⟩])
 (.cond (.t 4) (.seq (.reg [⟨some 2, .mov (.k (.c (.lit (.string ⟨#[113, 117, 101, 117, 101, 100]⟩)))), none⟩])
 (.ret)) (.seq (.reg [⟨some 7, .gen (.binOp .eql 3 (.tmp 3) (.const (.int .i64 2)) 3) 4, none⟩,
  ⟨some 6, .mov (.t 7), none⟩])
 (.cond (.t 6) (.seq (.reg [⟨some 2, .mov (.k (.c (.lit (.string ⟨#[104, 101, 108, 100]⟩)))), none⟩])
 (.ret)) (.seq (.reg [⟨some 9, .gen (.binOp .eql 3 (.tmp 3) (.const (.int .i64 3)) 3) 4, none⟩,
  ⟨some 8, .mov (.t 9), none⟩])
 (.cond (.t 8) (.seq (.reg [⟨some 2, .mov (.k (.c (.lit (.string ⟨#[114, 117, 110, 110, 105, 110, 103]⟩)))), none⟩])
 (.ret)) (.seq (.reg [⟨some 11, .gen (.binOp .eql 3 (.tmp 3) (.const (.int .i64 4)) 3) 4, none⟩,
  ⟨some 10, .mov (.t 11), none⟩])
 (.cond (.t 10) (.seq (.reg [⟨some 2, .mov (.k (.c (.lit (.string ⟨#[101, 120, 105, 116, 105, 110, 103]⟩)))), none⟩])
 (.ret)) (.seq (.reg [⟨some 13, .gen (.binOp .eql 3 (.tmp 3) (.const (.int .i64 5)) 3) 4, none⟩,
  ⟨some 12, .mov (.t 13), none⟩])
 (.cond (.t 12) (.seq (.reg [⟨some 2, .mov (.k (.c (.lit (.string ⟨#[99, 111, 109, 112, 108, 101, 116, 101, 100]⟩)))), none⟩])
 (.ret)) (.seq (.reg [⟨some 15, .gen (.binOp .eql 3 (.tmp 3) (.const (.int .i64 6)) 3) 4, none⟩,
  ⟨some 14, .mov (.t 15), none⟩])
 (.cond (.t 14) (.seq (.reg [⟨some 2, .mov (.k (.c (.lit (.string ⟨#[99, 97, 110, 99, 101, 108, 108, 101, 100]⟩)))), none⟩])
 (.ret)) (.skip)))))))))))))))
 (.seq (.reg [⟨some 2, .mov (.k (.c (.lit (.string ⟨#[]⟩)))), none⟩])
 (.ret))), true⟩
theorem C126 : compF Tryz.prog Tryz.f126 true = some A126 := by kernel_rfl

/- slices.rotateRight[drayage/api.Job] -/
def A128 : AFunc := ⟨2, 10, [], .reg [⟨some 4, .mov (.t 0), none⟩,
  ⟨some 5, .mov (.t 0), none⟩,
  ⟨some 6, .len (.t 5), none⟩,
  ⟨some 7, .mov (.t 1), none⟩,
  ⟨some 8, .gen (.binOp .sub 3 (.tmp 6) (.tmp 7) 3) 3, none⟩,
  ⟨some 9, .call (.k (.c (.fn (.func 143) [] []))) [(.t 4), (.t 8)], none⟩], true⟩
theorem C128 : compF Tryz.prog Tryz.f128 true = some A128 := by kernel_rfl

/- drayage/vec.split -/
def A129 : AFunc := ⟨1, 18, [(2, some (some 2))], .seq (.reg [⟨some 1, .box (.t 0), none⟩,
  ⟨some 2, .alloc [.c (.lit (.complex .f64 0 0)), .c (.lit (.complex .f64 0 0))], none⟩])
 (.seq (.reg [⟨some 3, .fld 0 (.t 1), none⟩,
  ⟨some 4, .load none (.t 3), none⟩,
  ⟨some 5, .gen (.convert 3 201 (.tmp 4)) 201, none⟩,
  ⟨some 6, .fld 1 (.t 1), none⟩,
  ⟨some 7, .load none (.t 6), none⟩,
  ⟨some 8, .gen (.convert 3 201 (.tmp 7)) 201, none⟩,
  ⟨some 9, .gen (.call ⟨.builtin .complex, #[(.tmp 5), (.tmp 8)], #[201, 201]⟩) 188, none⟩,
  ⟨some 10, .fld 2 (.t 1), none⟩,
  ⟨some 11, .load none (.t 10), none⟩,
  ⟨some 12, .gen (.convert 3 201 (.tmp 11)) 201, none⟩,
  ⟨some 13, .fld 3 (.t 1), none⟩,
  ⟨some 14, .load none (.t 13), none⟩,
  ⟨some 15, .gen (.convert 3 201 (.tmp 14)) 201, none⟩,
  ⟨some 16, .gen (.call ⟨.builtin .complex, #[(.tmp 12), (.tmp 15)], #[201, 201]⟩) 188, none⟩,
  ⟨some 17, .build [.c (.lit (.complex .f64 0 0)), .c (.lit (.complex .f64 0 0))] [(0, 1, (.t 9)), (1, 1, (.t 16))], none⟩,
  ⟨none, .store 2 (.t 2) (.t 17), none⟩])
 (.ret)), true⟩
theorem C129 : compF Tryz.prog Tryz.f129 true = some A129 := by kernel_rfl

/- drayage/vec.within -/
def A130 : AFunc := ⟨1, 12, [(2, some (some 4)), (3, none)], .seq (.reg [⟨some 1, .box (.t 0), none⟩,
  ⟨some 2, .alloc [.c (.lit (.int .i64 0)), .c (.lit (.int .i64 0)), .c (.lit (.int .i64 0)), .c (.lit (.int .i64 0))], none⟩,
  ⟨some 3, .mov (.k (.c (.lit (.int .i64 0)))), none⟩])
 (.seq (.reg [⟨some 5, .load (some 2) (.t 1), none⟩,
  ⟨some 6, .call (.k (.c (.fn (.func 144) [] []))) [(.t 5)], none⟩,
  ⟨some 4, .alloc [.c (.lit (.int .i64 0)), .c (.lit (.int .i64 0)), .c (.lit (.int .i64 0)), .c (.lit (.int .i64 0))], none⟩,
  ⟨none, .store 4 (.t 4) (.t 6), none⟩])
 (.seq (.seq (.reg [⟨some 7, .load (some 4) (.t 4), none⟩,
  ⟨some 8, .call (.k (.c (.fn (.func 90) [] []))) [(.t 7)], none⟩,
  ⟨some 9, .gen (.unOp .not 4 (.tmp 8)) 4, none⟩])
 (.cond (.t 9) (.seq (.reg [⟨some 10, .build [.c (.lit (.int .i64 0)), .c (.lit (.int .i64 0)), .c (.lit (.int .i64 0)), .c (.lit (.int .i64 0))] [], none⟩,
  ⟨none, .store 4 (.t 2) (.t 10), none⟩,
  ⟨some 3, .mov (.k (.c (.lit (.int .i64 20)))), none⟩])
 (.ret)) (.skip)))
 (.seq (.reg [⟨some 11, .load (some 4) (.t 4), none⟩,
  ⟨none, .store 4 (.t 2) (.t 11), none⟩,
  ⟨some 3, .mov (.k (.c (.lit (.int .i64 0)))), none⟩])
 (.ret)))), true⟩
theorem C130 : compF Tryz.prog Tryz.f130 true = some A130 := by kernel_rfl

/- slices.Index[[]int,int] -/
def A131_l0 : ACode := .seq (.reg [⟨some 9, .gen (.binOp .lss 3 (.tmp 8) (.tmp 7) 3) 0, none⟩])
 (.seq (.cond (.t 9) (.skip) (.exit 0))
 (.seq (.block 1 (.seq (.reg [⟨some 10, .mov (.t 8), none⟩,
  ⟨some 5, .mov (.t 10), none⟩])
 (.seq (.reg [⟨some 11, .mov (.t 1), none⟩,
  ⟨some 12, .mov (.t 0), none⟩,
  ⟨some 13, .mov (.t 5), none⟩,
  ⟨some 14, .idx 1 none (.t 12) (.t 13), none⟩,
  ⟨some 15, .load none (.t 14), none⟩,
  ⟨some 16, .gen (.binOp .eql 3 (.tmp 11) (.tmp 15) 3) 4, none⟩])
 (.cond (.t 16) (.seq (.reg [⟨some 17, .mov (.t 5), none⟩,
  ⟨some 4, .mov (.t 17), none⟩])
 (.ret)) (.skip)))))
 (.reg [⟨some 18, .gen (.binOp .add 3 (.tmp 8) (.const (.int .i64 1)) 3) 3, none⟩,
  ⟨some 8, .mov (.t 18), none⟩])))
def A131 : AFunc := ⟨2, 19, [(4, none)], .seq (.reg [⟨some 4, .mov (.k (.c (.lit (.int .i64 0)))), none⟩])
 (.seq (.seq (.reg [⟨some 6, .mov (.t 0), none⟩,
  ⟨some 7, .len (.t 6), none⟩,
  ⟨some 8, .mov (.k (.c (.lit (.int .i64 0)))), none⟩])
 (.block 0 (.loop A131_l0)))
 (.seq (.reg [⟨some 4, .mov (.k (.c (.lit (.int .i64 (-1))))), none⟩])
 (.ret))), true⟩
theorem C131 : compF Tryz.prog Tryz.f131 true = some A131 := by kernel_rfl

/- slices.Clone[[]drayage/api.Share,drayage/api.Share] -/
def A132 : AFunc := ⟨1, 8, [(2, none)], .seq (.reg [⟨some 2, .mov (.k (.c (.lit (.slice none 0 0)))), none⟩])
 (.seq (.seq (.reg [⟨some 3, .mov (.t 0), none⟩,
  ⟨some 4, .isnil 3 false (.t 3), none⟩])
 (.cond (.t 4) (.seq (.reg [⟨some 2, .mov (.k (.c (.lit (.slice none 0 0)))), none⟩])
 (.ret)) (.skip)))
 (.seq (.reg [⟨some 5, .bslice 2 0 [.c (.lit (.int .i64 0)), .c (.lit (.int .i64 0))] [], none⟩,
  ⟨some 6, .mov (.t 0), none⟩,
  ⟨some 7, .append 2 16 (.t 5) (.t 6), none⟩,
  ⟨some 2, .mov (.t 7), none⟩])
 (.ret))), true⟩
theorem C132 : compF Tryz.prog Tryz.f132 true = some A132 := by kernel_rfl

/- slices.Collect[int] -/
def A134 : AFunc := ⟨1, 5, [(2, none)], .seq (.reg [⟨some 2, .mov (.k (.c (.lit (.slice none 0 0)))), none⟩])
 (.seq (.reg [⟨some 3, .mov (.t 0), none⟩,
  ⟨some 4, .call (.k (.c (.fn (.func 145) [] []))) [(.k (.c (.lit (.slice none 0 0)))), (.t 3)], none⟩,
  ⟨some 2, .mov (.t 4), none⟩])
 (.ret)), true⟩
theorem C134 : compF Tryz.prog Tryz.f134 true = some A134 := by kernel_rfl

/- slices.Sort[[]int,int] -/
def A135 : AFunc := ⟨1, 11, [], .seq (.reg [⟨some 3, .mov (.t 0), none⟩,
  ⟨some 4, .len (.t 3), none⟩,
  ⟨some 2, .mov (.t 4), none⟩])
 (.reg [⟨some 5, .mov (.t 0), none⟩,
  ⟨some 6, .mov (.t 2), none⟩,
  ⟨some 7, .mov (.t 2), none⟩,
  ⟨some 8, .gen (.convert 3 207 (.tmp 7)) 207, none⟩,
  ⟨some 9, .call (.k (.c (.fn (.func 147) [] []))) [(.t 8)], none⟩,
  ⟨some 10, .call (.k (.c (.fn (.func 146) [] []))) [(.t 5), (.k (.c (.lit (.int .i64 0)))), (.t 6), (.t 9)], none⟩]), true⟩
theorem C135 : compF Tryz.prog Tryz.f135 true = some A135 := by kernel_rfl

/- maps.Keys[map[int]drayage/api.Alloc,int,drayage/api.Alloc]$1 -/
def A136_l0 : ACode := .seq (.stuck)
 (.seq (.cond (.t 7) (.skip) (.exit 0))
 (.block 1 (.seq (.stuck)
 (.seq (.reg [⟨some 10, .mov (.t 0), none⟩,
  ⟨some 11, .mov (.t 3), none⟩,
  ⟨some 12, .call (.t 10) [(.t 11)], none⟩,
  ⟨some 13, .gen (.unOp .not 4 (.tmp 12)) 4, none⟩])
 (.cond (.t 13) (.ret) (.skip))))))
def A136 : AFunc := ⟨2, 14, [], .seq (.stuck)
 (.block 0 (.loop A136_l0)), true⟩
theorem C136 : compF Tryz.prog Tryz.f136 true = some A136 := by kernel_rfl

/- drayage/spec.rules -/
def A137 : AFunc := ⟨1, 44, [(2, none)], .seq (.reg [⟨some 1, .box (.t 0), none⟩,
  ⟨some 2, .mov (.k (.c (.lit (.slice none 0 0)))), none⟩])
 (.seq (.drw [⟨some 3, .mkfn (.func 148) [] [(.t 1)], none⟩,
  ⟨some 4, .build [.c (.lit (.string ⟨#[]⟩)), .c (.lit .nilFunc)] [(0, 1, (.k (.c (.lit (.string ⟨#[78, 111, 100, 101, 115]⟩))))), (1, 1, (.t 3))], none⟩,
  ⟨some 5, .mkfn (.func 150) [] [(.t 1)], none⟩,
  ⟨some 6, .build [.c (.lit (.string ⟨#[]⟩)), .c (.lit .nilFunc)] [(0, 1, (.k (.c (.lit (.string ⟨#[80, 97, 114, 116, 115]⟩))))), (1, 1, (.t 5))], none⟩,
  ⟨some 7, .fld 3 (.t 1), none⟩,
  ⟨some 8, .load none (.t 7), none⟩,
  ⟨some 9, .call (.k (.c (.fn (.func 152) [] []))) [(.k (.c (.lit (.string ⟨#[85, 115, 101, 114, 115]⟩)))), (.t 8), (.k (.c (.lit (.int .i64 1)))), (.k (.c (.lit (.int .i64 8))))], none⟩,
  ⟨some 10, .mkfn (.func 153) [] [(.t 1)], none⟩,
  ⟨some 11, .build [.c (.lit (.string ⟨#[]⟩)), .c (.lit .nilFunc)] [(0, 1, (.k (.c (.lit (.string ⟨#[81, 117, 101, 117, 101, 115]⟩))))), (1, 1, (.t 10))], none⟩,
  ⟨some 12, .mkfn (.func 155) [] [(.t 1)], none⟩,
  ⟨some 13, .build [.c (.lit (.string ⟨#[]⟩)), .c (.lit .nilFunc)] [(0, 1, (.k (.c (.lit (.string ⟨#[87, 101, 105, 103, 104, 116, 115]⟩))))), (1, 1, (.t 12))], none⟩,
  ⟨some 14, .fld 8 (.t 1), none⟩,
  ⟨some 15, .load none (.t 14), none⟩,
  ⟨some 16, .call (.k (.c (.fn (.func 152) [] []))) [(.k (.c (.lit (.string ⟨#[68, 101, 99, 97, 121]⟩)))), (.t 15), (.k (.c (.lit (.int .i64 1)))), (.k (.c (.lit (.int .i64 16))))], none⟩,
  ⟨some 17, .mkfn (.func 157) [] [(.t 1)], none⟩,
  ⟨some 18, .build [.c (.lit (.string ⟨#[]⟩)), .c (.lit .nilFunc)] [(0, 1, (.k (.c (.lit (.string ⟨#[77, 111, 100, 101]⟩))))), (1, 1, (.t 17))], none⟩,
  ⟨some 19, .fld 10 (.t 1), none⟩,
  ⟨some 20, .load none (.t 19), none⟩,
  ⟨some 21, .call (.k (.c (.fn (.func 152) [] []))) [(.k (.c (.lit (.string ⟨#[74, 111, 98, 115]⟩)))), (.t 20), (.k (.c (.lit (.int .i64 1)))), (.k (.c (.lit (.int .i64 256))))], none⟩,
  ⟨some 22, .fld 11 (.t 1), none⟩,
  ⟨some 23, .load none (.t 22), none⟩,
  ⟨some 24, .call (.k (.c (.fn (.func 152) [] []))) [(.k (.c (.lit (.string ⟨#[73, 100, 115]⟩)))), (.t 23), (.k (.c (.lit (.int .i64 1)))), (.k (.c (.lit (.int .i64 1048576))))], none⟩,
  ⟨some 25, .fld 12 (.t 1), none⟩,
  ⟨some 26, .load none (.t 25), none⟩,
  ⟨some 27, .call (.k (.c (.fn (.func 152) [] []))) [(.k (.c (.lit (.string ⟨#[86, 101, 114, 115, 105, 111, 110, 115]⟩)))), (.t 26), (.k (.c (.lit (.int .i64 1)))), (.k (.c (.lit (.int .i64 65536))))], none⟩,
  ⟨some 28, .fld 13 (.t 1), none⟩,
  ⟨some 29, .load none (.t 28), none⟩,
  ⟨some 30, .call (.k (.c (.fn (.func 152) [] []))) [(.k (.c (.lit (.string ⟨#[76, 105, 110, 103, 101, 114]⟩)))), (.t 29), (.k (.c (.lit (.int .i64 0)))), (.k (.c (.lit (.int .i64 65536))))], none⟩,
  ⟨some 31, .fld 14 (.t 1), none⟩,
  ⟨some 32, .load none (.t 31), none⟩,
  ⟨some 33, .call (.k (.c (.fn (.func 152) [] []))) [(.k (.c (.lit (.string ⟨#[75, 101, 101, 112]⟩)))), (.t 32), (.k (.c (.lit (.int .i64 1)))), (.k (.c (.lit (.int .i64 16))))], none⟩,
  ⟨some 34, .fld 15 (.t 1), none⟩,
  ⟨some 35, .load none (.t 34), none⟩,
  ⟨some 36, .call (.k (.c (.fn (.func 152) [] []))) [(.k (.c (.lit (.string ⟨#[73, 110]⟩)))), (.t 35), (.k (.c (.lit (.int .i64 1)))), (.k (.c (.lit (.int .i64 8))))], none⟩,
  ⟨some 37, .fld 16 (.t 1), none⟩,
  ⟨some 38, .load none (.t 37), none⟩,
  ⟨some 39, .call (.k (.c (.fn (.func 152) [] []))) [(.k (.c (.lit (.string ⟨#[79, 117, 116]⟩)))), (.t 38), (.k (.c (.lit (.int .i64 1)))), (.k (.c (.lit (.int .i64 16))))], none⟩,
  ⟨some 40, .fld 17 (.t 1), none⟩,
  ⟨some 41, .load none (.t 40), none⟩,
  ⟨some 42, .call (.k (.c (.fn (.func 152) [] []))) [(.k (.c (.lit (.string ⟨#[67, 97, 99, 104, 101]⟩)))), (.t 41), (.k (.c (.lit (.int .i64 0)))), (.k (.c (.lit (.int .i64 16))))], none⟩,
  ⟨some 43, .bslice 2 15 [.c (.lit (.string ⟨#[]⟩)), .c (.lit .nilFunc)] [(0, 2, (.t 4)), (2, 2, (.t 6)), (4, 2, (.t 9)), (6, 2, (.t 11)), (8, 2, (.t 13)), (10, 2, (.t 16)), (12, 2, (.t 18)), (14, 2, (.t 21)), (16, 2, (.t 24)), (18, 2, (.t 27)), (20, 2, (.t 30)), (22, 2, (.t 33)), (24, 2, (.t 36)), (26, 2, (.t 39)), (28, 2, (.t 42))], none⟩,
  ⟨some 2, .mov (.t 43), none⟩] [0, 1, 0, 4, 0, 16, 48, 0, 128, 0, 512, 0, 2048, 6256, 0, 16384, 0, 65536, 211056, 0, 524288, 2046064, 0, 4194304, 16726128, 0, 33554432, 134166640, 0, 268435456, 1073690736, 0, 2147483648, 8589883504, 0, 17179869184, 68719425648, 0, 137438953472, 549755762800, 1099511627775, 2199023255551] 42 0)
 (.ret)), true⟩
theorem C137 : compF Tryz.prog Tryz.f137 true = some A137 := by kernel_rfl

/- drayage/spec.Room -/
def A138_l0 : ACode := .seq (.reg [⟨some 31, .gen (.binOp .lss 3 (.tmp 30) (.tmp 29) 3) 0, none⟩])
 (.seq (.cond (.t 31) (.skip) (.exit 0))
 (.seq (.block 1 (.seq (.reg [⟨some 32, .idx 1 none (.t 28) (.t 30), none⟩,
  ⟨some 33, .load none (.t 32), none⟩,
  ⟨some 9, .mov (.t 33), none⟩])
 (.drw [⟨some 34, .mov (.t 7), none⟩,
  ⟨some 35, .fld 0 (.t 3), none⟩,
  ⟨some 36, .load none (.t 35), none⟩,
  ⟨some 37, .mov (.t 9), none⟩,
  ⟨some 38, .idx 4 none (.t 36) (.t 37), none⟩,
  ⟨some 39, .load (some 4) (.t 38), none⟩,
  ⟨some 40, .load (some 4) (.t 5), none⟩,
  ⟨some 41, .call (.k (.c (.fn (.func 158) [] []))) [(.t 39), (.t 40)], none⟩,
  ⟨some 42, .gen (.binOp .add 3 (.tmp 34) (.tmp 41) 3) 3, none⟩,
  ⟨some 7, .mov (.t 42), none⟩] [0, 0, 2, 0, 14, 30, 0, 126, 255, 511] 10 1)))
 (.reg [⟨some 43, .gen (.binOp .add 3 (.tmp 30) (.const (.int .i64 1)) 3) 3, none⟩,
  ⟨some 30, .mov (.t 43), none⟩])))
def A138 : AFunc := ⟨3, 45, [(6, none)], .seq (.reg [⟨some 3, .box (.t 0), none⟩,
  ⟨some 5, .box (.t 2), none⟩,
  ⟨some 6, .mov (.k (.c (.lit (.int .i64 0)))), none⟩])
 (.seq (.seq (.reg [⟨some 10, .load (some 18) (.t 3), none⟩,
  ⟨some 11, .call (.k (.c (.fn (.func 64) [] []))) [(.t 10)], none⟩,
  ⟨some 12, .gen (.unOp .not 4 (.tmp 11)) 4, none⟩,
  ⟨some 13, .mov (.t 12), none⟩,
  ⟨some 14, .mov (.t 1), some (13, false)⟩,
  ⟨some 15, .gen (.binOp .lss 3 (.tmp 14) (.const (.int .i64 0)) 3) 4, some (13, false)⟩,
  ⟨some 16, .pick (.t 13) (.k (.c (.lit (.bool true)))) (.t 15), none⟩,
  ⟨some 17, .mov (.t 16), none⟩,
  ⟨some 18, .mov (.t 1), some (17, false)⟩,
  ⟨some 19, .fld 1 (.t 3), some (17, false)⟩,
  ⟨some 20, .load none (.t 19), some (17, false)⟩,
  ⟨some 21, .len (.t 20), some (17, false)⟩,
  ⟨some 22, .gen (.binOp .geq 3 (.tmp 18) (.tmp 21) 3) 4, some (17, false)⟩,
  ⟨some 23, .pick (.t 17) (.k (.c (.lit (.bool true)))) (.t 22), none⟩])
 (.cond (.t 23) (.seq (.reg [⟨some 6, .mov (.k (.c (.lit (.int .i64 0)))), none⟩])
 (.ret)) (.skip)))
 (.seq (.reg [⟨some 7, .mov (.k (.c (.lit (.int .i64 0)))), none⟩])
 (.seq (.seq (.reg [⟨some 24, .fld 1 (.t 3), none⟩,
  ⟨some 25, .load none (.t 24), none⟩,
  ⟨some 26, .mov (.t 1), none⟩,
  ⟨some 27, .idx 1 none (.t 25) (.t 26), none⟩,
  ⟨some 28, .load none (.t 27), none⟩,
  ⟨some 29, .len (.t 28), none⟩,
  ⟨some 30, .mov (.k (.c (.lit (.int .i64 0)))), none⟩])
 (.block 0 (.loop A138_l0)))
 (.seq (.reg [⟨some 44, .mov (.t 7), none⟩,
  ⟨some 6, .mov (.t 44), none⟩])
 (.ret))))), true⟩
theorem C138 : compF Tryz.prog Tryz.f138 true = some A138 := by kernel_rfl

/- drayage/quota.known -/
def A139 : AFunc := ⟨2, 18, [(4, none)], .seq (.reg [⟨some 2, .box (.t 0), none⟩,
  ⟨some 4, .mov (.k (.c (.lit (.bool false)))), none⟩])
 (.seq (.reg [⟨some 5, .mov (.t 1), none⟩,
  ⟨some 6, .gen (.binOp .geq 3 (.tmp 5) (.const (.int .i64 0)) 3) 4, none⟩,
  ⟨some 7, .mov (.t 6), none⟩,
  ⟨some 8, .mov (.t 1), some (7, true)⟩,
  ⟨some 9, .fld 2 (.t 2), some (7, true)⟩,
  ⟨some 10, .load none (.t 9), some (7, true)⟩,
  ⟨some 11, .len (.t 10), some (7, true)⟩,
  ⟨some 12, .gen (.binOp .lss 3 (.tmp 8) (.tmp 11) 3) 4, some (7, true)⟩,
  ⟨some 13, .pick (.t 7) (.t 12) (.k (.c (.lit (.bool false)))), none⟩,
  ⟨some 14, .mov (.t 13), none⟩,
  ⟨some 15, .load (some 18) (.t 2), some (14, true)⟩,
  ⟨some 16, .call (.k (.c (.fn (.func 64) [] []))) [(.t 15)], some (14, true)⟩,
  ⟨some 17, .pick (.t 14) (.t 16) (.k (.c (.lit (.bool false)))), none⟩,
  ⟨some 4, .mov (.t 17), none⟩])
 (.ret)), true⟩
theorem C139 : compF Tryz.prog Tryz.f139 true = some A139 := by kernel_rfl

/- drayage/quota.Waiting -/
def A140 : AFunc := ⟨2, 8, [(4, none)], .seq (.reg [⟨some 3, .box (.t 1), none⟩,
  ⟨some 4, .mov (.k (.c (.lit (.int .i64 0)))), none⟩])
 (.seq (.reg [⟨some 5, .mov (.t 0), none⟩,
  ⟨some 6, .mkfn (.func 160) [] [(.t 3)], none⟩,
  ⟨some 7, .call (.k (.c (.fn (.func 159) [] []))) [(.t 5), (.t 6)], none⟩,
  ⟨some 4, .mov (.t 7), none⟩])
 (.ret)), true⟩
theorem C140 : compF Tryz.prog Tryz.f140 true = some A140 := by kernel_rfl

/- slices.rotateLeft[drayage/api.Job] -/
def A143 : AFunc := ⟨2, 14, [], .seq (.reg [⟨some 4, .mov (.t 0), none⟩,
  ⟨some 5, .mov (.t 1), none⟩,
  ⟨some 6, .slc 18 (.t 4) none (some (.t 5)), none⟩,
  ⟨some 7, .call (.k (.c (.fn (.func 161) [] []))) [(.t 6)], none⟩])
 (.seq (.reg [⟨some 8, .mov (.t 0), none⟩,
  ⟨some 9, .mov (.t 1), none⟩,
  ⟨some 10, .slc 18 (.t 8) (some (.t 9)) none, none⟩,
  ⟨some 11, .call (.k (.c (.fn (.func 161) [] []))) [(.t 10)], none⟩])
 (.reg [⟨some 12, .mov (.t 0), none⟩,
  ⟨some 13, .call (.k (.c (.fn (.func 161) [] []))) [(.t 12)], none⟩])), true⟩
theorem C143 : compF Tryz.prog Tryz.f143 true = some A143 := by kernel_rfl

/- drayage/vec.join -/
def A144 : AFunc := ⟨1, 20, [(2, some (some 4))], .seq (.reg [⟨some 1, .box (.t 0), none⟩,
  ⟨some 2, .alloc [.c (.lit (.int .i64 0)), .c (.lit (.int .i64 0)), .c (.lit (.int .i64 0)), .c (.lit (.int .i64 0))], none⟩])
 (.seq (.reg [⟨some 3, .idx 1 (some 2) (.t 1) (.k (.c (.lit (.int .i64 0)))), none⟩,
  ⟨some 4, .load none (.t 3), none⟩,
  ⟨some 5, .gen (.call ⟨.builtin .real, #[(.tmp 4)], #[188]⟩) 201, none⟩,
  ⟨some 6, .gen (.convert 201 3 (.tmp 5)) 3, none⟩,
  ⟨some 7, .idx 1 (some 2) (.t 1) (.k (.c (.lit (.int .i64 0)))), none⟩,
  ⟨some 8, .load none (.t 7), none⟩,
  ⟨some 9, .gen (.call ⟨.builtin .imag, #[(.tmp 8)], #[188]⟩) 201, none⟩,
  ⟨some 10, .gen (.convert 201 3 (.tmp 9)) 3, none⟩,
  ⟨some 11, .idx 1 (some 2) (.t 1) (.k (.c (.lit (.int .i64 1)))), none⟩,
  ⟨some 12, .load none (.t 11), none⟩,
  ⟨some 13, .gen (.call ⟨.builtin .real, #[(.tmp 12)], #[188]⟩) 201, none⟩,
  ⟨some 14, .gen (.convert 201 3 (.tmp 13)) 3, none⟩,
  ⟨some 15, .idx 1 (some 2) (.t 1) (.k (.c (.lit (.int .i64 1)))), none⟩,
  ⟨some 16, .load none (.t 15), none⟩,
  ⟨some 17, .gen (.call ⟨.builtin .imag, #[(.tmp 16)], #[188]⟩) 201, none⟩,
  ⟨some 18, .gen (.convert 201 3 (.tmp 17)) 3, none⟩,
  ⟨some 19, .build [.c (.lit (.int .i64 0)), .c (.lit (.int .i64 0)), .c (.lit (.int .i64 0)), .c (.lit (.int .i64 0))] [(0, 1, (.t 6)), (1, 1, (.t 10)), (2, 1, (.t 14)), (3, 1, (.t 18))], none⟩,
  ⟨none, .store 4 (.t 2) (.t 19), none⟩])
 (.ret)), true⟩
theorem C144 : compF Tryz.prog Tryz.f144 true = some A144 := by kernel_rfl

/- slices.AppendSeq[[]int,int] -/
def A145 : AFunc := ⟨2, 13, [(4, none)], .seq (.reg [⟨some 2, .box (.t 0), none⟩,
  ⟨some 4, .mov (.k (.c (.lit (.slice none 0 0)))), none⟩])
 (.seq (.seq (.reg [⟨some 6, .mov (.t 1), none⟩])
 (.block 0 (.stuck)))
 (.seq (.reg [⟨some 12, .load none (.t 2), none⟩,
  ⟨some 4, .mov (.t 12), none⟩])
 (.ret))), true⟩
theorem C145 : compF Tryz.prog Tryz.f145 true = some A145 := by kernel_rfl

/- slices.pdqsortOrdered[int] -/
def A146_l0 : ACode := .block 1 (.seq (.reg [⟨some 19, .mov (.t 2), none⟩,
  ⟨some 20, .mov (.t 1), none⟩,
  ⟨some 21, .gen (.binOp .sub 3 (.tmp 19) (.tmp 20) 3) 3, none⟩,
  ⟨some 10, .mov (.t 21), none⟩])
 (.seq (.seq (.reg [⟨some 22, .mov (.t 10), none⟩,
  ⟨some 23, .gen (.binOp .leq 3 (.tmp 22) (.const (.int .i64 12)) 3) 4, none⟩])
 (.cond (.t 23) (.seq (.reg [⟨some 24, .mov (.t 0), none⟩,
  ⟨some 25, .mov (.t 1), none⟩,
  ⟨some 26, .mov (.t 2), none⟩,
  ⟨some 27, .call (.k (.c (.fn (.func 162) [] []))) [(.t 24), (.t 25), (.t 26)], none⟩])
 (.ret)) (.skip)))
 (.seq (.seq (.reg [⟨some 28, .mov (.t 3), none⟩,
  ⟨some 29, .gen (.binOp .eql 3 (.tmp 28) (.const (.int .i64 0)) 3) 4, none⟩])
 (.cond (.t 29) (.seq (.reg [⟨some 30, .mov (.t 0), none⟩,
  ⟨some 31, .mov (.t 1), none⟩,
  ⟨some 32, .mov (.t 2), none⟩,
  ⟨some 33, .call (.k (.c (.fn (.func 163) [] []))) [(.t 30), (.t 31), (.t 32)], none⟩])
 (.ret)) (.skip)))
 (.seq (.seq (.reg [⟨some 34, .mov (.t 8), none⟩,
  ⟨some 35, .gen (.unOp .not 4 (.tmp 34)) 4, none⟩])
 (.cond (.t 35) (.seq (.reg [⟨some 36, .mov (.t 0), none⟩,
  ⟨some 37, .mov (.t 1), none⟩,
  ⟨some 38, .mov (.t 2), none⟩,
  ⟨some 39, .call (.k (.c (.fn (.func 164) [] []))) [(.t 36), (.t 37), (.t 38)], none⟩])
 (.reg [⟨some 40, .mov (.t 3), none⟩,
  ⟨some 41, .gen (.binOp .sub 3 (.tmp 40) (.const (.int .i64 1)) 3) 3, none⟩,
  ⟨some 3, .mov (.t 41), none⟩])) (.skip)))
 (.seq (.reg [⟨some 43, .mov (.t 0), none⟩,
  ⟨some 44, .mov (.t 1), none⟩,
  ⟨some 45, .mov (.t 2), none⟩,
  ⟨some 46, .call (.k (.c (.fn (.func 165) [] []))) [(.t 43), (.t 44), (.t 45)], none⟩,
  ⟨some 42, .mov (.t 46), none⟩,
  ⟨some 47, .extract (.t 42) 0, none⟩,
  ⟨some 48, .extract (.t 42) 1, none⟩,
  ⟨some 11, .mov (.t 47), none⟩,
  ⟨some 12, .mov (.t 48), none⟩])
 (.seq (.seq (.reg [⟨some 49, .mov (.t 12), none⟩,
  ⟨some 50, .gen (.binOp .eql 218 (.tmp 49) (.const (.int .i64 2)) 218) 4, none⟩])
 (.cond (.t 50) (.seq (.reg [⟨some 51, .mov (.t 0), none⟩,
  ⟨some 52, .mov (.t 1), none⟩,
  ⟨some 53, .mov (.t 2), none⟩,
  ⟨some 54, .call (.k (.c (.fn (.func 166) [] []))) [(.t 51), (.t 52), (.t 53)], none⟩])
 (.seq (.reg [⟨some 55, .mov (.t 2), none⟩,
  ⟨some 56, .gen (.binOp .sub 3 (.tmp 55) (.const (.int .i64 1)) 3) 3, none⟩,
  ⟨some 57, .mov (.t 11), none⟩,
  ⟨some 58, .mov (.t 1), none⟩,
  ⟨some 59, .gen (.binOp .sub 3 (.tmp 57) (.tmp 58) 3) 3, none⟩,
  ⟨some 60, .gen (.binOp .sub 3 (.tmp 56) (.tmp 59) 3) 3, none⟩,
  ⟨some 11, .mov (.t 60), none⟩])
 (.reg [⟨some 12, .mov (.k (.c (.lit (.int .i64 1)))), none⟩]))) (.skip)))
 (.seq (.seq (.reg [⟨some 61, .mov (.t 8), none⟩,
  ⟨some 62, .mov (.t 61), none⟩,
  ⟨some 63, .mov (.t 9), some (62, true)⟩,
  ⟨some 64, .pick (.t 62) (.t 63) (.k (.c (.lit (.bool false)))), none⟩,
  ⟨some 65, .mov (.t 64), none⟩,
  ⟨some 66, .mov (.t 12), some (65, true)⟩,
  ⟨some 67, .gen (.binOp .eql 218 (.tmp 66) (.const (.int .i64 1)) 218) 4, some (65, true)⟩,
  ⟨some 68, .pick (.t 65) (.t 67) (.k (.c (.lit (.bool false)))), none⟩])
 (.cond (.t 68) (.seq (.reg [⟨some 69, .mov (.t 0), none⟩,
  ⟨some 70, .mov (.t 1), none⟩,
  ⟨some 71, .mov (.t 2), none⟩,
  ⟨some 72, .call (.k (.c (.fn (.func 167) [] []))) [(.t 69), (.t 70), (.t 71)], none⟩])
 (.cond (.t 72) (.ret) (.skip))) (.skip)))
 (.seq (.seq (.drw [⟨some 73, .mov (.t 1), none⟩,
  ⟨some 74, .gen (.binOp .gtr 3 (.tmp 73) (.const (.int .i64 0)) 3) 4, none⟩,
  ⟨some 75, .mov (.t 74), none⟩,
  ⟨some 76, .mov (.t 0), some (75, true)⟩,
  ⟨some 77, .mov (.t 1), some (75, true)⟩,
  ⟨some 78, .gen (.binOp .sub 3 (.tmp 77) (.const (.int .i64 1)) 3) 3, some (75, true)⟩,
  ⟨some 79, .idx 1 none (.t 76) (.t 78), some (75, true)⟩,
  ⟨some 80, .load none (.t 79), some (75, true)⟩,
  ⟨some 81, .mov (.t 0), some (75, true)⟩,
  ⟨some 82, .mov (.t 11), some (75, true)⟩,
  ⟨some 83, .idx 1 none (.t 81) (.t 82), some (75, true)⟩,
  ⟨some 84, .load none (.t 83), some (75, true)⟩,
  ⟨some 85, .call (.k (.c (.fn (.func 168) [] []))) [(.t 80), (.t 84)], some (75, true)⟩,
  ⟨some 86, .gen (.unOp .not 4 (.tmp 85)) 4, some (75, true)⟩,
  ⟨some 87, .pick (.t 75) (.t 86) (.k (.c (.lit (.bool false)))), none⟩] [0, 1, 3, 7, 7, 23, 63, 127, 7, 7, 775, 1799, 4095, 8191, 16383] 15 1)
 (.cond (.t 87) (.seq (.reg [⟨some 88, .mov (.t 0), none⟩,
  ⟨some 89, .mov (.t 1), none⟩,
  ⟨some 90, .mov (.t 2), none⟩,
  ⟨some 91, .mov (.t 11), none⟩,
  ⟨some 92, .call (.k (.c (.fn (.func 169) [] []))) [(.t 88), (.t 89), (.t 90), (.t 91)], none⟩,
  ⟨some 13, .mov (.t 92), none⟩])
 (.seq (.reg [⟨some 93, .mov (.t 13), none⟩,
  ⟨some 1, .mov (.t 93), none⟩])
 (.exit 1))) (.skip)))
 (.seq (.reg [⟨some 95, .mov (.t 0), none⟩,
  ⟨some 96, .mov (.t 1), none⟩,
  ⟨some 97, .mov (.t 2), none⟩,
  ⟨some 98, .mov (.t 11), none⟩,
  ⟨some 99, .call (.k (.c (.fn (.func 170) [] []))) [(.t 95), (.t 96), (.t 97), (.t 98)], none⟩,
  ⟨some 94, .mov (.t 99), none⟩,
  ⟨some 100, .extract (.t 94) 0, none⟩,
  ⟨some 101, .extract (.t 94) 1, none⟩,
  ⟨some 14, .mov (.t 100), none⟩,
  ⟨some 15, .mov (.t 101), none⟩])
 (.seq (.reg [⟨some 102, .mov (.t 15), none⟩,
  ⟨some 9, .mov (.t 102), none⟩])
 (.seq (.reg [⟨some 103, .mov (.t 14), none⟩,
  ⟨some 104, .mov (.t 1), none⟩,
  ⟨some 105, .gen (.binOp .sub 3 (.tmp 103) (.tmp 104) 3) 3, none⟩,
  ⟨some 106, .mov (.t 2), none⟩,
  ⟨some 107, .mov (.t 14), none⟩,
  ⟨some 108, .gen (.binOp .sub 3 (.tmp 106) (.tmp 107) 3) 3, none⟩,
  ⟨some 16, .mov (.t 105), none⟩,
  ⟨some 17, .mov (.t 108), none⟩])
 (.seq (.reg [⟨some 109, .mov (.t 10), none⟩,
  ⟨some 110, .gen (.binOp .quo 3 (.tmp 109) (.const (.int .i64 8)) 3) 3, none⟩,
  ⟨some 18, .mov (.t 110), none⟩])
 (.seq (.reg [⟨some 111, .mov (.t 16), none⟩,
  ⟨some 112, .mov (.t 17), none⟩,
  ⟨some 113, .gen (.binOp .lss 3 (.tmp 111) (.tmp 112) 3) 4, none⟩])
 (.cond (.t 113) (.seq (.reg [⟨some 114, .mov (.t 16), none⟩,
  ⟨some 115, .mov (.t 18), none⟩,
  ⟨some 116, .gen (.binOp .geq 3 (.tmp 114) (.tmp 115) 3) 4, none⟩,
  ⟨some 8, .mov (.t 116), none⟩])
 (.seq (.reg [⟨some 117, .mov (.t 0), none⟩,
  ⟨some 118, .mov (.t 1), none⟩,
  ⟨some 119, .mov (.t 14), none⟩,
  ⟨some 120, .mov (.t 3), none⟩,
  ⟨some 121, .call (.k (.c (.fn (.func 146) [] []))) [(.t 117), (.t 118), (.t 119), (.t 120)], none⟩])
 (.reg [⟨some 122, .mov (.t 14), none⟩,
  ⟨some 123, .gen (.binOp .add 3 (.tmp 122) (.const (.int .i64 1)) 3) 3, none⟩,
  ⟨some 1, .mov (.t 123), none⟩]))) (.seq (.reg [⟨some 124, .mov (.t 17), none⟩,
  ⟨some 125, .mov (.t 18), none⟩,
  ⟨some 126, .gen (.binOp .geq 3 (.tmp 124) (.tmp 125) 3) 4, none⟩,
  ⟨some 8, .mov (.t 126), none⟩])
 (.seq (.reg [⟨some 127, .mov (.t 0), none⟩,
  ⟨some 128, .mov (.t 14), none⟩,
  ⟨some 129, .gen (.binOp .add 3 (.tmp 128) (.const (.int .i64 1)) 3) 3, none⟩,
  ⟨some 130, .mov (.t 2), none⟩,
  ⟨some 131, .mov (.t 3), none⟩,
  ⟨some 132, .call (.k (.c (.fn (.func 146) [] []))) [(.t 127), (.t 129), (.t 130), (.t 131)], none⟩])
 (.reg [⟨some 133, .mov (.t 14), none⟩,
  ⟨some 2, .mov (.t 133), none⟩])))))))))))))))))
def A146 : AFunc := ⟨4, 134, [], .seq (.reg [⟨some 8, .mov (.k (.c (.lit (.bool true)))), none⟩])
 (.seq (.reg [⟨some 9, .mov (.k (.c (.lit (.bool true)))), none⟩])
 (.block 0 (.loop A146_l0))), true⟩
theorem C146 : compF Tryz.prog Tryz.f146 true = some A146 := by kernel_rfl

/- math/bits.Len -/
def A147 : AFunc := ⟨1, 8, [(2, none)], .seq (.reg [⟨some 2, .mov (.k (.c (.lit (.int .i64 0)))), none⟩])
 (.seq (.cond (.k (.c (.lit (.bool false)))) (.seq (.reg [⟨some 3, .mov (.t 0), none⟩,
  ⟨some 4, .gen (.convert 207 225 (.tmp 3)) 225, none⟩,
  ⟨some 5, .call (.k (.c (.fn (.func 171) [] []))) [(.t 4)], none⟩,
  ⟨some 2, .mov (.t 5), none⟩])
 (.ret)) (.skip))
 (.seq (.reg [⟨some 6, .mov (.t 0), none⟩,
  ⟨some 7, .call (.k (.c (.fn (.func 172) [] []))) [(.t 6)], none⟩,
  ⟨some 2, .mov (.t 7), none⟩])
 (.ret))), true⟩
theorem C147 : compF Tryz.prog Tryz.f147 true = some A147 := by kernel_rfl

/- drayage/spec.rules$1 -/
def A148 : AFunc := ⟨1, 4, [(1, none)], .seq (.reg [⟨some 1, .mov (.k (.c (.lit (.bool false)))), none⟩])
 (.seq (.reg [⟨some 2, .load (some 18) (.t 0), none⟩,
  ⟨some 3, .call (.k (.c (.fn (.func 149) [] []))) [(.t 2)], none⟩,
  ⟨some 1, .mov (.t 3), none⟩])
 (.ret)), true⟩
theorem C148 : compF Tryz.prog Tryz.f148 true = some A148 := by kernel_rfl

/- drayage/spec.nodesRight -/
def A149_l0 : ACode := .seq (.reg [⟨some 19, .gen (.binOp .lss 3 (.tmp 18) (.tmp 17) 3) 0, none⟩])
 (.seq (.cond (.t 19) (.skip) (.exit 0))
 (.seq (.block 1 (.seq (.reg [⟨some 20, .idx 4 none (.t 16) (.t 18), none⟩,
  ⟨some 21, .load (some 4) (.t 20), none⟩,
  ⟨some 4, .alloc [.c (.lit (.int .i64 0)), .c (.lit (.int .i64 0)), .c (.lit (.int .i64 0)), .c (.lit (.int .i64 0))], none⟩,
  ⟨none, .store 4 (.t 4) (.t 21), none⟩])
 (.seq (.reg [⟨some 22, .load (some 4) (.t 4), none⟩,
  ⟨some 23, .call (.k (.c (.fn (.func 90) [] []))) [(.t 22)], none⟩,
  ⟨some 24, .gen (.unOp .not 4 (.tmp 23)) 4, none⟩])
 (.cond (.t 24) (.seq (.reg [⟨some 2, .mov (.k (.c (.lit (.bool false)))), none⟩])
 (.ret)) (.skip)))))
 (.reg [⟨some 25, .gen (.binOp .add 3 (.tmp 18) (.const (.int .i64 1)) 3) 3, none⟩,
  ⟨some 18, .mov (.t 25), none⟩])))
def A149 : AFunc := ⟨1, 26, [(2, none)], .seq (.reg [⟨some 1, .box (.t 0), none⟩,
  ⟨some 2, .mov (.k (.c (.lit (.bool false)))), none⟩])
 (.seq (.seq (.reg [⟨some 5, .fld 0 (.t 1), none⟩,
  ⟨some 6, .load none (.t 5), none⟩,
  ⟨some 7, .len (.t 6), none⟩,
  ⟨some 8, .gen (.binOp .lss 3 (.tmp 7) (.const (.int .i64 1)) 3) 4, none⟩,
  ⟨some 9, .mov (.t 8), none⟩,
  ⟨some 10, .fld 0 (.t 1), some (9, false)⟩,
  ⟨some 11, .load none (.t 10), some (9, false)⟩,
  ⟨some 12, .len (.t 11), some (9, false)⟩,
  ⟨some 13, .gen (.binOp .gtr 3 (.tmp 12) (.const (.int .i64 16)) 3) 4, some (9, false)⟩,
  ⟨some 14, .pick (.t 9) (.k (.c (.lit (.bool true)))) (.t 13), none⟩])
 (.cond (.t 14) (.seq (.reg [⟨some 2, .mov (.k (.c (.lit (.bool false)))), none⟩])
 (.ret)) (.skip)))
 (.seq (.seq (.reg [⟨some 15, .fld 0 (.t 1), none⟩,
  ⟨some 16, .load none (.t 15), none⟩,
  ⟨some 17, .len (.t 16), none⟩,
  ⟨some 18, .mov (.k (.c (.lit (.int .i64 0)))), none⟩])
 (.block 0 (.loop A149_l0)))
 (.seq (.reg [⟨some 2, .mov (.k (.c (.lit (.bool true)))), none⟩])
 (.ret)))), true⟩
theorem C149 : compF Tryz.prog Tryz.f149 true = some A149 := by kernel_rfl

/- drayage/spec.rules$2 -/
def A150 : AFunc := ⟨1, 4, [(1, none)], .seq (.reg [⟨some 1, .mov (.k (.c (.lit (.bool false)))), none⟩])
 (.seq (.reg [⟨some 2, .load (some 18) (.t 0), none⟩,
  ⟨some 3, .call (.k (.c (.fn (.func 151) [] []))) [(.t 2)], none⟩,
  ⟨some 1, .mov (.t 3), none⟩])
 (.ret)), true⟩
theorem C150 : compF Tryz.prog Tryz.f150 true = some A150 := by kernel_rfl

/- drayage/spec.partsRight -/
def A151_l0 : ACode := .seq (.reg [⟨some 19, .gen (.binOp .lss 3 (.tmp 18) (.tmp 17) 3) 0, none⟩])
 (.seq (.cond (.t 19) (.skip) (.exit 0))
 (.seq (.block 1 (.seq (.reg [⟨some 20, .idx 1 none (.t 16) (.t 18), none⟩,
  ⟨some 21, .load none (.t 20), none⟩,
  ⟨some 4, .mov (.t 21), none⟩])
 (.seq (.reg [⟨some 22, .mov (.t 4), none⟩,
  ⟨some 23, .len (.t 22), none⟩,
  ⟨some 24, .gen (.binOp .lss 3 (.tmp 23) (.const (.int .i64 1)) 3) 4, none⟩,
  ⟨some 25, .mov (.t 24), none⟩,
  ⟨some 26, .mov (.t 4), some (25, false)⟩,
  ⟨some 27, .fld 0 (.t 1), some (25, false)⟩,
  ⟨some 28, .load none (.t 27), some (25, false)⟩,
  ⟨some 29, .len (.t 28), some (25, false)⟩,
  ⟨some 30, .call (.k (.c (.fn (.func 173) [] []))) [(.t 26), (.t 29)], some (25, false)⟩,
  ⟨some 31, .gen (.unOp .not 4 (.tmp 30)) 4, some (25, false)⟩,
  ⟨some 32, .pick (.t 25) (.k (.c (.lit (.bool true)))) (.t 31), none⟩])
 (.cond (.t 32) (.seq (.reg [⟨some 2, .mov (.k (.c (.lit (.bool false)))), none⟩])
 (.ret)) (.skip)))))
 (.reg [⟨some 33, .gen (.binOp .add 3 (.tmp 18) (.const (.int .i64 1)) 3) 3, none⟩,
  ⟨some 18, .mov (.t 33), none⟩])))
def A151 : AFunc := ⟨1, 34, [(2, none)], .seq (.reg [⟨some 1, .box (.t 0), none⟩,
  ⟨some 2, .mov (.k (.c (.lit (.bool false)))), none⟩])
 (.seq (.seq (.reg [⟨some 5, .fld 1 (.t 1), none⟩,
  ⟨some 6, .load none (.t 5), none⟩,
  ⟨some 7, .len (.t 6), none⟩,
  ⟨some 8, .gen (.binOp .lss 3 (.tmp 7) (.const (.int .i64 1)) 3) 4, none⟩,
  ⟨some 9, .mov (.t 8), none⟩,
  ⟨some 10, .fld 1 (.t 1), some (9, false)⟩,
  ⟨some 11, .load none (.t 10), some (9, false)⟩,
  ⟨some 12, .len (.t 11), some (9, false)⟩,
  ⟨some 13, .gen (.binOp .gtr 3 (.tmp 12) (.const (.int .i64 8)) 3) 4, some (9, false)⟩,
  ⟨some 14, .pick (.t 9) (.k (.c (.lit (.bool true)))) (.t 13), none⟩])
 (.cond (.t 14) (.seq (.reg [⟨some 2, .mov (.k (.c (.lit (.bool false)))), none⟩])
 (.ret)) (.skip)))
 (.seq (.seq (.reg [⟨some 15, .fld 1 (.t 1), none⟩,
  ⟨some 16, .load none (.t 15), none⟩,
  ⟨some 17, .len (.t 16), none⟩,
  ⟨some 18, .mov (.k (.c (.lit (.int .i64 0)))), none⟩])
 (.block 0 (.loop A151_l0)))
 (.seq (.reg [⟨some 2, .mov (.k (.c (.lit (.bool true)))), none⟩])
 (.ret)))), true⟩
theorem C151 : compF Tryz.prog Tryz.f151 true = some A151 := by kernel_rfl

/- drayage/spec.within -/
def A152 : AFunc := ⟨4, 12, [(8, some (some 2))], .seq (.reg [⟨some 5, .box (.t 1), none⟩,
  ⟨some 6, .box (.t 2), none⟩,
  ⟨some 7, .box (.t 3), none⟩,
  ⟨some 8, .alloc [.c (.lit (.string ⟨#[]⟩)), .c (.lit .nilFunc)], none⟩])
 (.seq (.reg [⟨some 9, .mov (.t 0), none⟩,
  ⟨some 10, .mkfn (.func 174) [] [(.t 6), (.t 5), (.t 7)], none⟩,
  ⟨some 11, .build [.c (.lit (.string ⟨#[]⟩)), .c (.lit .nilFunc)] [(0, 1, (.t 9)), (1, 1, (.t 10))], none⟩,
  ⟨none, .store 2 (.t 8) (.t 11), none⟩])
 (.ret)), true⟩
theorem C152 : compF Tryz.prog Tryz.f152 true = some A152 := by kernel_rfl

/- drayage/spec.rules$3 -/
def A153 : AFunc := ⟨1, 4, [(1, none)], .seq (.reg [⟨some 1, .mov (.k (.c (.lit (.bool false)))), none⟩])
 (.seq (.reg [⟨some 2, .load (some 18) (.t 0), none⟩,
  ⟨some 3, .call (.k (.c (.fn (.func 154) [] []))) [(.t 2)], none⟩,
  ⟨some 1, .mov (.t 3), none⟩])
 (.ret)), true⟩
theorem C153 : compF Tryz.prog Tryz.f153 true = some A153 := by kernel_rfl

/- drayage/spec.queuesRight -/
def A154_l0 : ACode := .seq (.reg [⟨some 51, .gen (.binOp .lss 3 (.tmp 50) (.const (.int .i64 3)) 3) 0, none⟩])
 (.seq (.cond (.t 51) (.skip) (.exit 2))
 (.seq (.block 3 (.seq (.reg [⟨some 52, .aidx 1 3 none (.t 49) (.t 50), none⟩,
  ⟨some 6, .mov (.t 52), none⟩])
 (.seq (.reg [⟨some 53, .mov (.t 6), none⟩,
  ⟨some 54, .gen (.binOp .lss 3 (.tmp 53) (.const (.int .i64 1)) 3) 4, none⟩,
  ⟨some 55, .mov (.t 54), none⟩,
  ⟨some 56, .mov (.t 6), some (55, false)⟩,
  ⟨some 57, .gen (.binOp .gtr 3 (.tmp 56) (.const (.int .i64 256)) 3) 4, some (55, false)⟩,
  ⟨some 58, .pick (.t 55) (.k (.c (.lit (.bool true)))) (.t 57), none⟩])
 (.cond (.t 58) (.seq (.reg [⟨some 2, .mov (.k (.c (.lit (.bool false)))), none⟩])
 (.ret)) (.skip)))))
 (.reg [⟨some 59, .gen (.binOp .add 3 (.tmp 50) (.const (.int .i64 1)) 3) 3, none⟩,
  ⟨some 50, .mov (.t 59), none⟩])))
def A154_l1 : ACode := .seq (.reg [⟨some 21, .gen (.binOp .lss 3 (.tmp 20) (.tmp 19) 3) 0, none⟩])
 (.seq (.cond (.t 21) (.skip) (.exit 0))
 (.seq (.block 1 (.seq (.reg [⟨some 22, .idx 6 none (.t 18) (.t 20), none⟩,
  ⟨some 23, .load (some 6) (.t 22), none⟩,
  ⟨some 4, .alloc [.c (.lit (.int .i64 0)), .c (.lit (.slice none 0 0)), .c (.lit (.int .i64 0)), .c (.lit (.int .i64 0)), .c (.lit (.int .i64 0)), .c (.lit (.int .i64 0))], none⟩,
  ⟨none, .store 6 (.t 4) (.t 23), none⟩])
 (.seq (.seq (.reg [⟨some 24, .fld 0 (.t 4), none⟩,
  ⟨some 25, .load none (.t 24), none⟩,
  ⟨some 26, .gen (.binOp .lss 3 (.tmp 25) (.const (.int .i64 0)) 3) 4, none⟩,
  ⟨some 27, .mov (.t 26), none⟩,
  ⟨some 28, .fld 0 (.t 4), some (27, false)⟩,
  ⟨some 29, .load none (.t 28), some (27, false)⟩,
  ⟨some 30, .fld 1 (.t 1), some (27, false)⟩,
  ⟨some 31, .load none (.t 30), some (27, false)⟩,
  ⟨some 32, .len (.t 31), some (27, false)⟩,
  ⟨some 33, .gen (.binOp .geq 3 (.tmp 29) (.tmp 32) 3) 4, some (27, false)⟩,
  ⟨some 34, .pick (.t 27) (.k (.c (.lit (.bool true)))) (.t 33), none⟩,
  ⟨some 35, .mov (.t 34), none⟩,
  ⟨some 36, .fld 1 (.t 4), some (35, false)⟩,
  ⟨some 37, .load none (.t 36), some (35, false)⟩,
  ⟨some 38, .fld 3 (.t 1), some (35, false)⟩,
  ⟨some 39, .load none (.t 38), some (35, false)⟩,
  ⟨some 40, .call (.k (.c (.fn (.func 173) [] []))) [(.t 37), (.t 39)], some (35, false)⟩,
  ⟨some 41, .gen (.unOp .not 4 (.tmp 40)) 4, some (35, false)⟩,
  ⟨some 42, .pick (.t 35) (.k (.c (.lit (.bool true)))) (.t 41), none⟩])
 (.cond (.t 42) (.seq (.reg [⟨some 2, .mov (.k (.c (.lit (.bool false)))), none⟩])
 (.ret)) (.skip)))
 (.seq (.seq (.reg [⟨some 43, .fld 2 (.t 4), none⟩,
  ⟨some 44, .load none (.t 43), none⟩,
  ⟨some 45, .fld 3 (.t 4), none⟩,
  ⟨some 46, .load none (.t 45), none⟩,
  ⟨some 47, .fld 4 (.t 4), none⟩,
  ⟨some 48, .load none (.t 47), none⟩,
  ⟨some 49, .build [.c (.lit (.int .i64 0)), .c (.lit (.int .i64 0)), .c (.lit (.int .i64 0))] [(0, 1, (.t 44)), (1, 1, (.t 46)), (2, 1, (.t 48))], none⟩,
  ⟨some 50, .mov (.k (.c (.lit (.int .i64 0)))), none⟩])
 (.block 2 (.loop A154_l0)))
 (.seq (.reg [⟨some 60, .fld 5 (.t 4), none⟩,
  ⟨some 61, .load none (.t 60), none⟩,
  ⟨some 62, .gen (.binOp .lss 3 (.tmp 61) (.const (.int .i64 0)) 3) 4, none⟩,
  ⟨some 63, .mov (.t 62), none⟩,
  ⟨some 64, .fld 5 (.t 4), some (63, false)⟩,
  ⟨some 65, .load none (.t 64), some (63, false)⟩,
  ⟨some 66, .gen (.binOp .gtr 3 (.tmp 65) (.const (.int .i64 100)) 3) 4, some (63, false)⟩,
  ⟨some 67, .pick (.t 63) (.k (.c (.lit (.bool true)))) (.t 66), none⟩])
 (.cond (.t 67) (.seq (.reg [⟨some 2, .mov (.k (.c (.lit (.bool false)))), none⟩])
 (.ret)) (.skip)))))))
 (.reg [⟨some 68, .gen (.binOp .add 3 (.tmp 20) (.const (.int .i64 1)) 3) 3, none⟩,
  ⟨some 20, .mov (.t 68), none⟩])))
def A154 : AFunc := ⟨1, 69, [(2, none)], .seq (.reg [⟨some 1, .box (.t 0), none⟩,
  ⟨some 2, .mov (.k (.c (.lit (.bool false)))), none⟩])
 (.seq (.seq (.reg [⟨some 7, .fld 2 (.t 1), none⟩,
  ⟨some 8, .load none (.t 7), none⟩,
  ⟨some 9, .len (.t 8), none⟩,
  ⟨some 10, .gen (.binOp .lss 3 (.tmp 9) (.const (.int .i64 1)) 3) 4, none⟩,
  ⟨some 11, .mov (.t 10), none⟩,
  ⟨some 12, .fld 2 (.t 1), some (11, false)⟩,
  ⟨some 13, .load none (.t 12), some (11, false)⟩,
  ⟨some 14, .len (.t 13), some (11, false)⟩,
  ⟨some 15, .gen (.binOp .gtr 3 (.tmp 14) (.const (.int .i64 8)) 3) 4, some (11, false)⟩,
  ⟨some 16, .pick (.t 11) (.k (.c (.lit (.bool true)))) (.t 15), none⟩])
 (.cond (.t 16) (.seq (.reg [⟨some 2, .mov (.k (.c (.lit (.bool false)))), none⟩])
 (.ret)) (.skip)))
 (.seq (.seq (.reg [⟨some 17, .fld 2 (.t 1), none⟩,
  ⟨some 18, .load none (.t 17), none⟩,
  ⟨some 19, .len (.t 18), none⟩,
  ⟨some 20, .mov (.k (.c (.lit (.int .i64 0)))), none⟩])
 (.block 0 (.loop A154_l1)))
 (.seq (.reg [⟨some 2, .mov (.k (.c (.lit (.bool true)))), none⟩])
 (.ret)))), true⟩
theorem C154 : compF Tryz.prog Tryz.f154 true = some A154 := by kernel_rfl

/- drayage/spec.rules$4 -/
def A155 : AFunc := ⟨1, 5, [(1, none)], .seq (.reg [⟨some 1, .mov (.k (.c (.lit (.bool false)))), none⟩])
 (.seq (.reg [⟨some 2, .fld 4 (.t 0), none⟩,
  ⟨some 3, .load (some 4) (.t 2), none⟩,
  ⟨some 4, .call (.k (.c (.fn (.func 156) [] []))) [(.t 3)], none⟩,
  ⟨some 1, .mov (.t 4), none⟩])
 (.ret)), true⟩
theorem C155 : compF Tryz.prog Tryz.f155 true = some A155 := by kernel_rfl

/- drayage/spec.weightsRight -/
def A156_l0 : ACode := .seq (.reg [⟨some 15, .gen (.binOp .lss 3 (.tmp 14) (.const (.int .i64 4)) 3) 0, none⟩])
 (.seq (.cond (.t 15) (.skip) (.exit 0))
 (.seq (.block 1 (.seq (.reg [⟨some 16, .aidx 1 4 none (.t 13) (.t 14), none⟩,
  ⟨some 4, .mov (.t 16), none⟩])
 (.seq (.reg [⟨some 17, .mov (.t 4), none⟩,
  ⟨some 18, .gen (.binOp .lss 3 (.tmp 17) (.const (.int .i64 0)) 3) 4, none⟩,
  ⟨some 19, .mov (.t 18), none⟩,
  ⟨some 20, .mov (.t 4), some (19, false)⟩,
  ⟨some 21, .gen (.binOp .gtr 3 (.tmp 20) (.const (.int .i64 1000)) 3) 4, some (19, false)⟩,
  ⟨some 22, .pick (.t 19) (.k (.c (.lit (.bool true)))) (.t 21), none⟩])
 (.cond (.t 22) (.seq (.reg [⟨some 2, .mov (.k (.c (.lit (.bool false)))), none⟩])
 (.ret)) (.skip)))))
 (.reg [⟨some 23, .gen (.binOp .add 3 (.tmp 14) (.const (.int .i64 1)) 3) 3, none⟩,
  ⟨some 14, .mov (.t 23), none⟩])))
def A156 : AFunc := ⟨1, 24, [(2, none)], .seq (.reg [⟨some 1, .box (.t 0), none⟩,
  ⟨some 2, .mov (.k (.c (.lit (.bool false)))), none⟩])
 (.seq (.seq (.reg [⟨some 5, .fld 0 (.t 1), none⟩,
  ⟨some 6, .load none (.t 5), none⟩,
  ⟨some 7, .fld 1 (.t 1), none⟩,
  ⟨some 8, .load none (.t 7), none⟩,
  ⟨some 9, .fld 2 (.t 1), none⟩,
  ⟨some 10, .load none (.t 9), none⟩,
  ⟨some 11, .fld 3 (.t 1), none⟩,
  ⟨some 12, .load none (.t 11), none⟩,
  ⟨some 13, .build [.c (.lit (.int .i64 0)), .c (.lit (.int .i64 0)), .c (.lit (.int .i64 0)), .c (.lit (.int .i64 0))] [(0, 1, (.t 6)), (1, 1, (.t 8)), (2, 1, (.t 10)), (3, 1, (.t 12))], none⟩,
  ⟨some 14, .mov (.k (.c (.lit (.int .i64 0)))), none⟩])
 (.block 0 (.loop A156_l0)))
 (.seq (.reg [⟨some 2, .mov (.k (.c (.lit (.bool true)))), none⟩])
 (.ret))), true⟩
theorem C156 : compF Tryz.prog Tryz.f156 true = some A156 := by kernel_rfl

/- drayage/spec.rules$5 -/
def A157 : AFunc := ⟨1, 10, [(1, none)], .seq (.reg [⟨some 1, .mov (.k (.c (.lit (.bool false)))), none⟩])
 (.seq (.reg [⟨some 2, .fld 9 (.t 0), none⟩,
  ⟨some 3, .load none (.t 2), none⟩,
  ⟨some 4, .gen (.binOp .eql 3 (.tmp 3) (.const (.int .i64 1)) 3) 4, none⟩,
  ⟨some 5, .mov (.t 4), none⟩,
  ⟨some 6, .fld 9 (.t 0), some (5, false)⟩,
  ⟨some 7, .load none (.t 6), some (5, false)⟩,
  ⟨some 8, .gen (.binOp .eql 3 (.tmp 7) (.const (.int .i64 2)) 3) 4, some (5, false)⟩,
  ⟨some 9, .pick (.t 5) (.k (.c (.lit (.bool true)))) (.t 8), none⟩,
  ⟨some 1, .mov (.t 9), none⟩])
 (.ret)), true⟩
theorem C157 : compF Tryz.prog Tryz.f157 true = some A157 := by kernel_rfl

/- drayage/vec.Count -/
def A158_l0 : ACode := .seq (.reg [⟨some 27, .gen (.binOp .lss 3 (.tmp 26) (.const (.int .i64 4)) 3) 0, none⟩])
 (.seq (.cond (.t 27) (.skip) (.exit 0))
 (.seq (.block 1 (.seq (.reg [⟨some 28, .mov (.t 26), none⟩,
  ⟨some 8, .mov (.t 28), none⟩])
 (.seq (.reg [⟨some 29, .mov (.t 8), none⟩,
  ⟨some 30, .idx 1 (some 4) (.t 7) (.t 29), none⟩,
  ⟨some 31, .load none (.t 30), none⟩,
  ⟨some 32, .gen (.binOp .gtr 3 (.tmp 31) (.const (.int .i64 0)) 3) 4, none⟩])
 (.cond (.t 32) (.drw [⟨some 33, .mov (.t 5), none⟩,
  ⟨some 34, .mov (.t 8), none⟩,
  ⟨some 35, .idx 1 (some 4) (.t 6) (.t 34), none⟩,
  ⟨some 36, .load none (.t 35), none⟩,
  ⟨some 37, .mov (.t 8), none⟩,
  ⟨some 38, .idx 1 (some 4) (.t 7) (.t 37), none⟩,
  ⟨some 39, .load none (.t 38), none⟩,
  ⟨some 40, .gen (.binOp .quo 3 (.tmp 36) (.tmp 39) 3) 3, none⟩,
  ⟨some 41, .gen (.call ⟨.builtin .min, #[(.tmp 33), (.tmp 40)], #[3, 3]⟩) 3, none⟩,
  ⟨some 5, .mov (.t 41), none⟩] [0, 0, 2, 6, 0, 16, 48, 126, 255, 511] 10 2) (.skip)))))
 (.reg [⟨some 42, .gen (.binOp .add 3 (.tmp 26) (.const (.int .i64 1)) 3) 3, none⟩,
  ⟨some 26, .mov (.t 42), none⟩])))
def A158 : AFunc := ⟨2, 44, [(4, none)], .seq (.reg [⟨some 2, .box (.t 0), none⟩,
  ⟨some 3, .box (.t 1), none⟩,
  ⟨some 4, .mov (.k (.c (.lit (.int .i64 0)))), none⟩])
 (.seq (.seq (.reg [⟨some 9, .load (some 4) (.t 2), none⟩,
  ⟨some 10, .call (.k (.c (.fn (.func 90) [] []))) [(.t 9)], none⟩,
  ⟨some 11, .gen (.unOp .not 4 (.tmp 10)) 4, none⟩,
  ⟨some 12, .mov (.t 11), none⟩,
  ⟨some 13, .load (some 4) (.t 3), some (12, false)⟩,
  ⟨some 14, .call (.k (.c (.fn (.func 90) [] []))) [(.t 13)], some (12, false)⟩,
  ⟨some 15, .gen (.unOp .not 4 (.tmp 14)) 4, some (12, false)⟩,
  ⟨some 16, .pick (.t 12) (.k (.c (.lit (.bool true)))) (.t 15), none⟩,
  ⟨some 17, .mov (.t 16), none⟩,
  ⟨some 18, .load (some 4) (.t 3), some (17, false)⟩,
  ⟨some 19, .build [.c (.lit (.int .i64 0)), .c (.lit (.int .i64 0)), .c (.lit (.int .i64 0)), .c (.lit (.int .i64 0))] [], some (17, false)⟩,
  ⟨some 20, .gen (.binOp .eql 23 (.tmp 18) (.tmp 19) 23) 4, some (17, false)⟩,
  ⟨some 21, .pick (.t 17) (.k (.c (.lit (.bool true)))) (.t 20), none⟩])
 (.cond (.t 21) (.seq (.reg [⟨some 4, .mov (.k (.c (.lit (.int .i64 0)))), none⟩])
 (.ret)) (.skip)))
 (.seq (.reg [⟨some 5, .mov (.k (.c (.lit (.int .i64 64)))), none⟩])
 (.seq (.drw [⟨some 22, .load (some 4) (.t 2), none⟩,
  ⟨some 23, .call (.k (.c (.fn (.func 125) [] []))) [(.t 22)], none⟩,
  ⟨some 24, .load (some 4) (.t 3), none⟩,
  ⟨some 25, .call (.k (.c (.fn (.func 125) [] []))) [(.t 24)], none⟩,
  ⟨some 6, .alloc [.c (.lit (.int .i64 0)), .c (.lit (.int .i64 0)), .c (.lit (.int .i64 0)), .c (.lit (.int .i64 0))], none⟩,
  ⟨some 7, .alloc [.c (.lit (.int .i64 0)), .c (.lit (.int .i64 0)), .c (.lit (.int .i64 0)), .c (.lit (.int .i64 0))], none⟩,
  ⟨none, .store 4 (.t 6) (.t 23), none⟩,
  ⟨none, .store 4 (.t 7) (.t 25), none⟩] [0, 1, 0, 7, 0, 0, 63, 127] 8 0)
 (.seq (.seq (.reg [⟨some 26, .mov (.k (.c (.lit (.int .i64 0)))), none⟩])
 (.block 0 (.loop A158_l0)))
 (.seq (.reg [⟨some 43, .mov (.t 5), none⟩,
  ⟨some 4, .mov (.t 43), none⟩])
 (.ret)))))), true⟩
theorem C158 : compF Tryz.prog Tryz.f158 true = some A158 := by kernel_rfl

/- drayage/quota.count -/
def A159_l0 : ACode := .seq (.reg [⟨some 11, .gen (.binOp .lss 3 (.tmp 10) (.tmp 9) 3) 0, none⟩])
 (.seq (.cond (.t 11) (.skip) (.exit 0))
 (.seq (.block 1 (.seq (.reg [⟨some 12, .idx 18 none (.t 8) (.t 10), none⟩,
  ⟨some 13, .load (some 18) (.t 12), none⟩,
  ⟨some 7, .alloc [.c (.lit (.int .i64 0)), .c (.lit (.int .i64 0)), .c (.lit (.int .i64 0)), .c (.lit (.int .i64 0)), .c (.lit (.int .i64 0)), .c (.lit (.int .i64 0)), .c (.lit (.int .i64 0)), .c (.lit (.int .i64 0)), .c (.lit (.int .i64 0)), .c (.lit (.slice none 0 0)), .c (.lit (.int .i64 0)), .c (.lit (.bool false)), .c (.lit (.bool false)), .c (.lit (.int .i64 0)), .c (.lit (.int .i64 0)), .c (.lit (.int .i64 0)), .c (.lit (.int .i64 0)), .c (.lit (.int .i64 0))], none⟩,
  ⟨none, .store 18 (.t 7) (.t 13), none⟩])
 (.seq (.reg [⟨some 14, .mov (.t 1), none⟩,
  ⟨some 15, .load (some 18) (.t 7), none⟩,
  ⟨some 16, .call (.t 14) [(.t 15)], none⟩])
 (.cond (.t 16) (.reg [⟨some 17, .mov (.t 5), none⟩,
  ⟨some 18, .gen (.binOp .add 3 (.tmp 17) (.const (.int .i64 1)) 3) 3, none⟩,
  ⟨some 5, .mov (.t 18), none⟩]) (.skip)))))
 (.reg [⟨some 19, .gen (.binOp .add 3 (.tmp 10) (.const (.int .i64 1)) 3) 3, none⟩,
  ⟨some 10, .mov (.t 19), none⟩])))
def A159 : AFunc := ⟨2, 21, [(4, none)], .seq (.reg [⟨some 4, .mov (.k (.c (.lit (.int .i64 0)))), none⟩])
 (.seq (.reg [⟨some 5, .mov (.k (.c (.lit (.int .i64 0)))), none⟩])
 (.seq (.seq (.reg [⟨some 8, .mov (.t 0), none⟩,
  ⟨some 9, .len (.t 8), none⟩,
  ⟨some 10, .mov (.k (.c (.lit (.int .i64 0)))), none⟩])
 (.block 0 (.loop A159_l0)))
 (.seq (.reg [⟨some 20, .mov (.t 5), none⟩,
  ⟨some 4, .mov (.t 20), none⟩])
 (.ret)))), true⟩
theorem C159 : compF Tryz.prog Tryz.f159 true = some A159 := by kernel_rfl

/- drayage/quota.Waiting$1 -/
def A160 : AFunc := ⟨2, 13, [(3, none)], .seq (.reg [⟨some 2, .box (.t 0), none⟩,
  ⟨some 3, .mov (.k (.c (.lit (.bool false)))), none⟩])
 (.seq (.reg [⟨some 4, .fld 2 (.t 2), none⟩,
  ⟨some 5, .load none (.t 4), none⟩,
  ⟨some 6, .load none (.t 1), none⟩,
  ⟨some 7, .gen (.binOp .eql 3 (.tmp 5) (.tmp 6) 3) 4, none⟩,
  ⟨some 8, .mov (.t 7), none⟩,
  ⟨some 9, .fld 10 (.t 2), some (8, true)⟩,
  ⟨some 10, .load none (.t 9), some (8, true)⟩,
  ⟨some 11, .call (.k (.c (.fn (.func 39) [] []))) [(.t 10)], some (8, true)⟩,
  ⟨some 12, .pick (.t 8) (.t 11) (.k (.c (.lit (.bool false)))), none⟩,
  ⟨some 3, .mov (.t 12), none⟩])
 (.ret)), true⟩
theorem C160 : compF Tryz.prog Tryz.f160 true = some A160 := by kernel_rfl

/- slices.Reverse[[]drayage/api.Job,drayage/api.Job] -/
def A161_l0 : ACode := .seq (.seq (.reg [⟨some 7, .mov (.t 2), none⟩,
  ⟨some 8, .mov (.t 3), none⟩,
  ⟨some 9, .gen (.binOp .lss 3 (.tmp 7) (.tmp 8) 3) 4, none⟩])
 (.cond (.t 9) (.skip) (.exit 0)))
 (.seq (.block 1 (.drw [⟨some 14, .mov (.t 0), none⟩,
  ⟨some 15, .mov (.t 2), none⟩,
  ⟨some 16, .mov (.t 0), none⟩,
  ⟨some 17, .mov (.t 3), none⟩,
  ⟨some 18, .mov (.t 0), none⟩,
  ⟨some 19, .mov (.t 3), none⟩,
  ⟨some 20, .idx 18 none (.t 18) (.t 19), none⟩,
  ⟨some 21, .load (some 18) (.t 20), none⟩,
  ⟨some 22, .mov (.t 0), none⟩,
  ⟨some 23, .mov (.t 2), none⟩,
  ⟨some 24, .idx 18 none (.t 22) (.t 23), none⟩,
  ⟨some 25, .load (some 18) (.t 24), none⟩,
  ⟨some 26, .idx 18 none (.t 14) (.t 15), none⟩,
  ⟨none, .store 18 (.t 26) (.t 21), none⟩,
  ⟨some 27, .idx 18 none (.t 16) (.t 17), none⟩,
  ⟨none, .store 18 (.t 27) (.t 25), none⟩] [0, 0, 0, 0, 0, 0, 48, 112, 0, 0, 768, 1792, 4083, 8179, 16383, 32767] 16 6))
 (.reg [⟨some 10, .mov (.t 2), none⟩,
  ⟨some 11, .gen (.binOp .add 3 (.tmp 10) (.const (.int .i64 1)) 3) 3, none⟩,
  ⟨some 12, .mov (.t 3), none⟩,
  ⟨some 13, .gen (.binOp .sub 3 (.tmp 12) (.const (.int .i64 1)) 3) 3, none⟩,
  ⟨some 2, .mov (.t 11), none⟩,
  ⟨some 3, .mov (.t 13), none⟩]))
def A161 : AFunc := ⟨1, 28, [], .seq (.reg [⟨some 4, .mov (.t 0), none⟩,
  ⟨some 5, .len (.t 4), none⟩,
  ⟨some 6, .gen (.binOp .sub 3 (.tmp 5) (.const (.int .i64 1)) 3) 3, none⟩,
  ⟨some 2, .mov (.k (.c (.lit (.int .i64 0)))), none⟩,
  ⟨some 3, .mov (.t 6), none⟩])
 (.block 0 (.loop A161_l0)), true⟩
theorem C161 : compF Tryz.prog Tryz.f161 true = some A161 := by kernel_rfl

/- slices.insertionSortOrdered[int] -/
def A162_l0 : ACode := .seq (.seq (.drw [⟨some 16, .mov (.t 7), none⟩,
  ⟨some 17, .mov (.t 1), none⟩,
  ⟨some 18, .gen (.binOp .gtr 3 (.tmp 16) (.tmp 17) 3) 4, none⟩,
  ⟨some 19, .mov (.t 18), none⟩,
  ⟨some 20, .mov (.t 0), some (19, true)⟩,
  ⟨some 21, .mov (.t 7), some (19, true)⟩,
  ⟨some 22, .idx 1 none (.t 20) (.t 21), some (19, true)⟩,
  ⟨some 23, .load none (.t 22), some (19, true)⟩,
  ⟨some 24, .mov (.t 0), some (19, true)⟩,
  ⟨some 25, .mov (.t 7), some (19, true)⟩,
  ⟨some 26, .gen (.binOp .sub 3 (.tmp 25) (.const (.int .i64 1)) 3) 3, some (19, true)⟩,
  ⟨some 27, .idx 1 none (.t 24) (.t 26), some (19, true)⟩,
  ⟨some 28, .load none (.t 27), some (19, true)⟩,
  ⟨some 29, .call (.k (.c (.fn (.func 168) [] []))) [(.t 23), (.t 28)], some (19, true)⟩,
  ⟨some 30, .pick (.t 19) (.t 29) (.k (.c (.lit (.bool false)))), none⟩] [0, 0, 3, 7, 15, 15, 63, 127, 15, 15, 527, 1807, 3855, 8191, 16383] 15 2)
 (.cond (.t 30) (.skip) (.exit 2)))
 (.seq (.block 3 (.drw [⟨some 33, .mov (.t 0), none⟩,
  ⟨some 34, .mov (.t 7), none⟩,
  ⟨some 35, .mov (.t 0), none⟩,
  ⟨some 36, .mov (.t 7), none⟩,
  ⟨some 37, .gen (.binOp .sub 3 (.tmp 36) (.const (.int .i64 1)) 3) 3, none⟩,
  ⟨some 38, .mov (.t 0), none⟩,
  ⟨some 39, .mov (.t 7), none⟩,
  ⟨some 40, .gen (.binOp .sub 3 (.tmp 39) (.const (.int .i64 1)) 3) 3, none⟩,
  ⟨some 41, .idx 1 none (.t 38) (.t 40), none⟩,
  ⟨some 42, .load none (.t 41), none⟩,
  ⟨some 43, .mov (.t 0), none⟩,
  ⟨some 44, .mov (.t 7), none⟩,
  ⟨some 45, .idx 1 none (.t 43) (.t 44), none⟩,
  ⟨some 46, .load none (.t 45), none⟩,
  ⟨some 47, .idx 1 none (.t 33) (.t 34), none⟩,
  ⟨none, .store 1 (.t 47) (.t 42), none⟩,
  ⟨some 48, .idx 1 none (.t 35) (.t 37), none⟩,
  ⟨none, .store 1 (.t 48) (.t 46), none⟩] [0, 0, 0, 0, 8, 0, 0, 64, 224, 480, 0, 0, 3072, 7168, 16355, 32739, 65535, 131071] 18 4))
 (.reg [⟨some 31, .mov (.t 7), none⟩,
  ⟨some 32, .gen (.binOp .sub 3 (.tmp 31) (.const (.int .i64 1)) 3) 3, none⟩,
  ⟨some 7, .mov (.t 32), none⟩]))
def A162_l1 : ACode := .seq (.seq (.reg [⟨some 10, .mov (.t 6), none⟩,
  ⟨some 11, .mov (.t 2), none⟩,
  ⟨some 12, .gen (.binOp .lss 3 (.tmp 10) (.tmp 11) 3) 4, none⟩])
 (.cond (.t 12) (.skip) (.exit 0)))
 (.seq (.block 1 (.seq (.reg [⟨some 15, .mov (.t 6), none⟩,
  ⟨some 7, .mov (.t 15), none⟩])
 (.block 2 (.loop A162_l0))))
 (.reg [⟨some 13, .mov (.t 6), none⟩,
  ⟨some 14, .gen (.binOp .add 3 (.tmp 13) (.const (.int .i64 1)) 3) 3, none⟩,
  ⟨some 6, .mov (.t 14), none⟩]))
def A162 : AFunc := ⟨3, 49, [], .seq (.reg [⟨some 8, .mov (.t 1), none⟩,
  ⟨some 9, .gen (.binOp .add 3 (.tmp 8) (.const (.int .i64 1)) 3) 3, none⟩,
  ⟨some 6, .mov (.t 9), none⟩])
 (.block 0 (.loop A162_l1)), true⟩
theorem C162 : compF Tryz.prog Tryz.f162 true = some A162 := by kernel_rfl

/- slices.heapSortOrdered[int] -/
def A163_l0 : ACode := .seq (.seq (.reg [⟨some 18, .mov (.t 9), none⟩,
  ⟨some 19, .gen (.binOp .geq 3 (.tmp 18) (.const (.int .i64 0)) 3) 4, none⟩])
 (.cond (.t 19) (.skip) (.exit 0)))
 (.seq (.block 1 (.reg [⟨some 22, .mov (.t 0), none⟩,
  ⟨some 23, .mov (.t 9), none⟩,
  ⟨some 24, .mov (.t 8), none⟩,
  ⟨some 25, .mov (.t 6), none⟩,
  ⟨some 26, .call (.k (.c (.fn (.func 175) [] []))) [(.t 22), (.t 23), (.t 24), (.t 25)], none⟩]))
 (.reg [⟨some 20, .mov (.t 9), none⟩,
  ⟨some 21, .gen (.binOp .sub 3 (.tmp 20) (.const (.int .i64 1)) 3) 3, none⟩,
  ⟨some 9, .mov (.t 21), none⟩]))
def A163_l1 : ACode := .seq (.seq (.reg [⟨some 29, .mov (.t 10), none⟩,
  ⟨some 30, .gen (.binOp .geq 3 (.tmp 29) (.const (.int .i64 0)) 3) 4, none⟩])
 (.cond (.t 30) (.skip) (.exit 2)))
 (.seq (.block 3 (.seq (.drw [⟨some 33, .mov (.t 0), none⟩,
  ⟨some 34, .mov (.t 6), none⟩,
  ⟨some 35, .mov (.t 0), none⟩,
  ⟨some 36, .mov (.t 6), none⟩,
  ⟨some 37, .mov (.t 10), none⟩,
  ⟨some 38, .gen (.binOp .add 3 (.tmp 36) (.tmp 37) 3) 3, none⟩,
  ⟨some 39, .mov (.t 0), none⟩,
  ⟨some 40, .mov (.t 6), none⟩,
  ⟨some 41, .mov (.t 10), none⟩,
  ⟨some 42, .gen (.binOp .add 3 (.tmp 40) (.tmp 41) 3) 3, none⟩,
  ⟨some 43, .idx 1 none (.t 39) (.t 42), none⟩,
  ⟨some 44, .load none (.t 43), none⟩,
  ⟨some 45, .mov (.t 0), none⟩,
  ⟨some 46, .mov (.t 6), none⟩,
  ⟨some 47, .idx 1 none (.t 45) (.t 46), none⟩,
  ⟨some 48, .load none (.t 47), none⟩,
  ⟨some 49, .idx 1 none (.t 33) (.t 34), none⟩,
  ⟨none, .store 1 (.t 49) (.t 44), none⟩,
  ⟨some 50, .idx 1 none (.t 35) (.t 38), none⟩,
  ⟨none, .store 1 (.t 50) (.t 48), none⟩] [0, 0, 0, 0, 0, 24, 0, 0, 0, 384, 960, 1984, 0, 0, 12288, 28672, 65475, 131011, 262143, 524287] 20 5)
 (.reg [⟨some 51, .mov (.t 0), none⟩,
  ⟨some 52, .mov (.t 7), none⟩,
  ⟨some 53, .mov (.t 10), none⟩,
  ⟨some 54, .mov (.t 6), none⟩,
  ⟨some 55, .call (.k (.c (.fn (.func 175) [] []))) [(.t 51), (.t 52), (.t 53), (.t 54)], none⟩])))
 (.reg [⟨some 31, .mov (.t 10), none⟩,
  ⟨some 32, .gen (.binOp .sub 3 (.tmp 31) (.const (.int .i64 1)) 3) 3, none⟩,
  ⟨some 10, .mov (.t 32), none⟩]))
def A163 : AFunc := ⟨3, 56, [], .seq (.reg [⟨some 11, .mov (.t 1), none⟩,
  ⟨some 6, .mov (.t 11), none⟩])
 (.seq (.reg [⟨some 7, .mov (.k (.c (.lit (.int .i64 0)))), none⟩])
 (.seq (.reg [⟨some 12, .mov (.t 2), none⟩,
  ⟨some 13, .mov (.t 1), none⟩,
  ⟨some 14, .gen (.binOp .sub 3 (.tmp 12) (.tmp 13) 3) 3, none⟩,
  ⟨some 8, .mov (.t 14), none⟩])
 (.seq (.seq (.reg [⟨some 15, .mov (.t 8), none⟩,
  ⟨some 16, .gen (.binOp .sub 3 (.tmp 15) (.const (.int .i64 1)) 3) 3, none⟩,
  ⟨some 17, .gen (.binOp .quo 3 (.tmp 16) (.const (.int .i64 2)) 3) 3, none⟩,
  ⟨some 9, .mov (.t 17), none⟩])
 (.block 0 (.loop A163_l0)))
 (.seq (.reg [⟨some 27, .mov (.t 8), none⟩,
  ⟨some 28, .gen (.binOp .sub 3 (.tmp 27) (.const (.int .i64 1)) 3) 3, none⟩,
  ⟨some 10, .mov (.t 28), none⟩])
 (.block 2 (.loop A163_l1)))))), true⟩
theorem C163 : compF Tryz.prog Tryz.f163 true = some A163 := by kernel_rfl

/- slices.breakPatternsOrdered[int] -/
def A164_l0 : ACode := .seq (.seq (.reg [⟨some 26, .mov (.t 9), none⟩,
  ⟨some 27, .mov (.t 1), none⟩,
  ⟨some 28, .mov (.t 6), none⟩,
  ⟨some 29, .gen (.binOp .quo 3 (.tmp 28) (.const (.int .i64 4)) 3) 3, none⟩,
  ⟨some 30, .gen (.binOp .mul 3 (.tmp 29) (.const (.int .i64 2)) 3) 3, none⟩,
  ⟨some 31, .gen (.binOp .add 3 (.tmp 27) (.tmp 30) 3) 3, none⟩,
  ⟨some 32, .gen (.binOp .add 3 (.tmp 31) (.const (.int .i64 1)) 3) 3, none⟩,
  ⟨some 33, .gen (.binOp .leq 3 (.tmp 26) (.tmp 32) 3) 4, none⟩])
 (.cond (.t 33) (.skip) (.exit 0)))
 (.seq (.block 1 (.seq (.reg [⟨some 36, .call (.k (.c (.fn (.func 177) [] []))) [(.t 7)], none⟩,
  ⟨some 37, .mov (.t 8), none⟩,
  ⟨some 38, .gen (.binOp .sub 207 (.tmp 37) (.const (.int .u64 1)) 207) 207, none⟩,
  ⟨some 39, .gen (.binOp .and 207 (.tmp 36) (.tmp 38) 207) 207, none⟩,
  ⟨some 40, .gen (.convert 207 3 (.tmp 39)) 3, none⟩,
  ⟨some 10, .mov (.t 40), none⟩])
 (.seq (.seq (.reg [⟨some 41, .mov (.t 10), none⟩,
  ⟨some 42, .mov (.t 6), none⟩,
  ⟨some 43, .gen (.binOp .geq 3 (.tmp 41) (.tmp 42) 3) 4, none⟩])
 (.cond (.t 43) (.reg [⟨some 44, .mov (.t 10), none⟩,
  ⟨some 45, .mov (.t 6), none⟩,
  ⟨some 46, .gen (.binOp .sub 3 (.tmp 44) (.tmp 45) 3) 3, none⟩,
  ⟨some 10, .mov (.t 46), none⟩]) (.skip)))
 (.drw [⟨some 47, .mov (.t 0), none⟩,
  ⟨some 48, .mov (.t 9), none⟩,
  ⟨some 49, .mov (.t 0), none⟩,
  ⟨some 50, .mov (.t 1), none⟩,
  ⟨some 51, .mov (.t 10), none⟩,
  ⟨some 52, .gen (.binOp .add 3 (.tmp 50) (.tmp 51) 3) 3, none⟩,
  ⟨some 53, .mov (.t 0), none⟩,
  ⟨some 54, .mov (.t 1), none⟩,
  ⟨some 55, .mov (.t 10), none⟩,
  ⟨some 56, .gen (.binOp .add 3 (.tmp 54) (.tmp 55) 3) 3, none⟩,
  ⟨some 57, .idx 1 none (.t 53) (.t 56), none⟩,
  ⟨some 58, .load none (.t 57), none⟩,
  ⟨some 59, .mov (.t 0), none⟩,
  ⟨some 60, .mov (.t 9), none⟩,
  ⟨some 61, .idx 1 none (.t 59) (.t 60), none⟩,
  ⟨some 62, .load none (.t 61), none⟩,
  ⟨some 63, .idx 1 none (.t 47) (.t 48), none⟩,
  ⟨none, .store 1 (.t 63) (.t 58), none⟩,
  ⟨some 64, .idx 1 none (.t 49) (.t 52), none⟩,
  ⟨none, .store 1 (.t 64) (.t 62), none⟩] [0, 0, 0, 0, 0, 24, 0, 0, 0, 384, 960, 1984, 0, 0, 12288, 28672, 65475, 131011, 262143, 524287] 20 5))))
 (.reg [⟨some 34, .mov (.t 9), none⟩,
  ⟨some 35, .gen (.binOp .add 3 (.tmp 34) (.const (.int .i64 1)) 3) 3, none⟩,
  ⟨some 9, .mov (.t 35), none⟩]))
def A164 : AFunc := ⟨3, 65, [], .seq (.reg [⟨some 11, .mov (.t 2), none⟩,
  ⟨some 12, .mov (.t 1), none⟩,
  ⟨some 13, .gen (.binOp .sub 3 (.tmp 11) (.tmp 12) 3) 3, none⟩,
  ⟨some 6, .mov (.t 13), none⟩])
 (.seq (.reg [⟨some 14, .mov (.t 6), none⟩,
  ⟨some 15, .gen (.binOp .geq 3 (.tmp 14) (.const (.int .i64 8)) 3) 4, none⟩])
 (.cond (.t 15) (.seq (.reg [⟨some 16, .mov (.t 6), none⟩,
  ⟨some 17, .gen (.convert 3 228 (.tmp 16)) 228, none⟩,
  ⟨some 7, .alloc [.c (.lit (.int .u64 0))], none⟩,
  ⟨none, .store 1 (.t 7) (.t 17), none⟩])
 (.seq (.reg [⟨some 18, .mov (.t 6), none⟩,
  ⟨some 19, .call (.k (.c (.fn (.func 176) [] []))) [(.t 18)], none⟩,
  ⟨some 8, .mov (.t 19), none⟩])
 (.seq (.reg [⟨some 20, .mov (.t 1), none⟩,
  ⟨some 21, .mov (.t 6), none⟩,
  ⟨some 22, .gen (.binOp .quo 3 (.tmp 21) (.const (.int .i64 4)) 3) 3, none⟩,
  ⟨some 23, .gen (.binOp .mul 3 (.tmp 22) (.const (.int .i64 2)) 3) 3, none⟩,
  ⟨some 24, .gen (.binOp .add 3 (.tmp 20) (.tmp 23) 3) 3, none⟩,
  ⟨some 25, .gen (.binOp .sub 3 (.tmp 24) (.const (.int .i64 1)) 3) 3, none⟩,
  ⟨some 9, .mov (.t 25), none⟩])
 (.block 0 (.loop A164_l0))))) (.skip))), true⟩
theorem C164 : compF Tryz.prog Tryz.f164 true = some A164 := by kernel_rfl

/- slices.choosePivotOrdered[int] -/
def A165 : AFunc := ⟨3, 57, [(6, none), (7, none)], .seq (.reg [⟨some 6, .mov (.k (.c (.lit (.int .i64 0)))), none⟩,
  ⟨some 7, .mov (.k (.c (.lit (.int .i64 0)))), none⟩])
 (.seq (.reg [⟨some 13, .mov (.t 2), none⟩,
  ⟨some 14, .mov (.t 1), none⟩,
  ⟨some 15, .gen (.binOp .sub 3 (.tmp 13) (.tmp 14) 3) 3, none⟩,
  ⟨some 8, .mov (.t 15), none⟩])
 (.seq (.reg [⟨some 9, .alloc [.c (.lit (.int .i64 0))], none⟩])
 (.seq (.reg [⟨some 16, .mov (.t 1), none⟩,
  ⟨some 17, .mov (.t 8), none⟩,
  ⟨some 18, .gen (.binOp .quo 3 (.tmp 17) (.const (.int .i64 4)) 3) 3, none⟩,
  ⟨some 19, .gen (.binOp .mul 3 (.tmp 18) (.const (.int .i64 1)) 3) 3, none⟩,
  ⟨some 20, .gen (.binOp .add 3 (.tmp 16) (.tmp 19) 3) 3, none⟩,
  ⟨some 10, .mov (.t 20), none⟩])
 (.seq (.reg [⟨some 21, .mov (.t 1), none⟩,
  ⟨some 22, .mov (.t 8), none⟩,
  ⟨some 23, .gen (.binOp .quo 3 (.tmp 22) (.const (.int .i64 4)) 3) 3, none⟩,
  ⟨some 24, .gen (.binOp .mul 3 (.tmp 23) (.const (.int .i64 2)) 3) 3, none⟩,
  ⟨some 25, .gen (.binOp .add 3 (.tmp 21) (.tmp 24) 3) 3, none⟩,
  ⟨some 11, .mov (.t 25), none⟩])
 (.seq (.reg [⟨some 26, .mov (.t 1), none⟩,
  ⟨some 27, .mov (.t 8), none⟩,
  ⟨some 28, .gen (.binOp .quo 3 (.tmp 27) (.const (.int .i64 4)) 3) 3, none⟩,
  ⟨some 29, .gen (.binOp .mul 3 (.tmp 28) (.const (.int .i64 3)) 3) 3, none⟩,
  ⟨some 30, .gen (.binOp .add 3 (.tmp 26) (.tmp 29) 3) 3, none⟩,
  ⟨some 12, .mov (.t 30), none⟩])
 (.seq (.seq (.reg [⟨some 31, .mov (.t 8), none⟩,
  ⟨some 32, .gen (.binOp .geq 3 (.tmp 31) (.const (.int .i64 8)) 3) 4, none⟩])
 (.cond (.t 32) (.seq (.seq (.reg [⟨some 33, .mov (.t 8), none⟩,
  ⟨some 34, .gen (.binOp .geq 3 (.tmp 33) (.const (.int .i64 50)) 3) 4, none⟩])
 (.cond (.t 34) (.seq (.reg [⟨some 35, .mov (.t 0), none⟩,
  ⟨some 36, .mov (.t 10), none⟩,
  ⟨some 37, .call (.k (.c (.fn (.func 178) [] []))) [(.t 35), (.t 36), (.t 9)], none⟩,
  ⟨some 10, .mov (.t 37), none⟩])
 (.seq (.reg [⟨some 38, .mov (.t 0), none⟩,
  ⟨some 39, .mov (.t 11), none⟩,
  ⟨some 40, .call (.k (.c (.fn (.func 178) [] []))) [(.t 38), (.t 39), (.t 9)], none⟩,
  ⟨some 11, .mov (.t 40), none⟩])
 (.reg [⟨some 41, .mov (.t 0), none⟩,
  ⟨some 42, .mov (.t 12), none⟩,
  ⟨some 43, .call (.k (.c (.fn (.func 178) [] []))) [(.t 41), (.t 42), (.t 9)], none⟩,
  ⟨some 12, .mov (.t 43), none⟩]))) (.skip)))
 (.reg [⟨some 44, .mov (.t 0), none⟩,
  ⟨some 45, .mov (.t 10), none⟩,
  ⟨some 46, .mov (.t 11), none⟩,
  ⟨some 47, .mov (.t 12), none⟩,
  ⟨some 48, .call (.k (.c (.fn (.func 179) [] []))) [(.t 44), (.t 45), (.t 46), (.t 47), (.t 9)], none⟩,
  ⟨some 11, .mov (.t 48), none⟩])) (.skip)))
 (.seq (.reg [⟨some 49, .load none (.t 9), none⟩])
 (.block 0 (.seq (.reg [⟨some 52, .gen (.binOp .eql 3 (.tmp 49) (.const (.int .i64 0)) 3) 4, none⟩,
  ⟨some 51, .mov (.t 52), none⟩])
 (.cond (.t 51) (.seq (.reg [⟨some 53, .mov (.t 11), none⟩,
  ⟨some 6, .mov (.t 53), none⟩,
  ⟨some 7, .mov (.k (.c (.lit (.int .i64 1)))), none⟩])
 (.ret)) (.seq (.reg [⟨some 55, .gen (.binOp .eql 3 (.tmp 49) (.const (.int .i64 12)) 3) 4, none⟩,
  ⟨some 54, .mov (.t 55), none⟩])
 (.cond (.t 54) (.seq (.reg [⟨some 56, .mov (.t 11), none⟩,
  ⟨some 6, .mov (.t 56), none⟩,
  ⟨some 7, .mov (.k (.c (.lit (.int .i64 2)))), none⟩])
 (.ret)) (.seq (.reg [⟨some 50, .mov (.t 11), none⟩,
  ⟨some 6, .mov (.t 50), none⟩,
  ⟨some 7, .mov (.k (.c (.lit (.int .i64 0)))), none⟩])
 (.ret)))))))))))))), true⟩
theorem C165 : compF Tryz.prog Tryz.f165 true = some A165 := by kernel_rfl

/- slices.reverseRangeOrdered[int] -/
def A166_l0 : ACode := .seq (.seq (.reg [⟨some 11, .mov (.t 6), none⟩,
  ⟨some 12, .mov (.t 7), none⟩,
  ⟨some 13, .gen (.binOp .lss 3 (.tmp 11) (.tmp 12) 3) 4, none⟩])
 (.cond (.t 13) (.skip) (.exit 0)))
 (.block 1 (.seq (.drw [⟨some 14, .mov (.t 0), none⟩,
  ⟨some 15, .mov (.t 6), none⟩,
  ⟨some 16, .mov (.t 0), none⟩,
  ⟨some 17, .mov (.t 7), none⟩,
  ⟨some 18, .mov (.t 0), none⟩,
  ⟨some 19, .mov (.t 7), none⟩,
  ⟨some 20, .idx 1 none (.t 18) (.t 19), none⟩,
  ⟨some 21, .load none (.t 20), none⟩,
  ⟨some 22, .mov (.t 0), none⟩,
  ⟨some 23, .mov (.t 6), none⟩,
  ⟨some 24, .idx 1 none (.t 22) (.t 23), none⟩,
  ⟨some 25, .load none (.t 24), none⟩,
  ⟨some 26, .idx 1 none (.t 14) (.t 15), none⟩,
  ⟨none, .store 1 (.t 26) (.t 21), none⟩,
  ⟨some 27, .idx 1 none (.t 16) (.t 17), none⟩,
  ⟨none, .store 1 (.t 27) (.t 25), none⟩] [0, 0, 0, 0, 0, 0, 48, 112, 0, 0, 768, 1792, 4083, 8179, 16383, 32767] 16 6)
 (.seq (.reg [⟨some 28, .mov (.t 6), none⟩,
  ⟨some 29, .gen (.binOp .add 3 (.tmp 28) (.const (.int .i64 1)) 3) 3, none⟩,
  ⟨some 6, .mov (.t 29), none⟩])
 (.reg [⟨some 30, .mov (.t 7), none⟩,
  ⟨some 31, .gen (.binOp .sub 3 (.tmp 30) (.const (.int .i64 1)) 3) 3, none⟩,
  ⟨some 7, .mov (.t 31), none⟩]))))
def A166 : AFunc := ⟨3, 32, [], .seq (.reg [⟨some 8, .mov (.t 1), none⟩,
  ⟨some 6, .mov (.t 8), none⟩])
 (.seq (.reg [⟨some 9, .mov (.t 2), none⟩,
  ⟨some 10, .gen (.binOp .sub 3 (.tmp 9) (.const (.int .i64 1)) 3) 3, none⟩,
  ⟨some 7, .mov (.t 10), none⟩])
 (.block 0 (.loop A166_l0))), true⟩
theorem C166 : compF Tryz.prog Tryz.f166 true = some A166 := by kernel_rfl

/- slices.partialInsertionSortOrdered[int] -/
def A167_l0 : ACode := .seq (.seq (.drw [⟨some 17, .mov (.t 7), none⟩,
  ⟨some 18, .mov (.t 2), none⟩,
  ⟨some 19, .gen (.binOp .lss 3 (.tmp 17) (.tmp 18) 3) 4, none⟩,
  ⟨some 20, .mov (.t 19), none⟩,
  ⟨some 21, .mov (.t 0), some (20, true)⟩,
  ⟨some 22, .mov (.t 7), some (20, true)⟩,
  ⟨some 23, .idx 1 none (.t 21) (.t 22), some (20, true)⟩,
  ⟨some 24, .load none (.t 23), some (20, true)⟩,
  ⟨some 25, .mov (.t 0), some (20, true)⟩,
  ⟨some 26, .mov (.t 7), some (20, true)⟩,
  ⟨some 27, .gen (.binOp .sub 3 (.tmp 26) (.const (.int .i64 1)) 3) 3, some (20, true)⟩,
  ⟨some 28, .idx 1 none (.t 25) (.t 27), some (20, true)⟩,
  ⟨some 29, .load none (.t 28), some (20, true)⟩,
  ⟨some 30, .call (.k (.c (.fn (.func 168) [] []))) [(.t 24), (.t 29)], some (20, true)⟩,
  ⟨some 31, .gen (.unOp .not 4 (.tmp 30)) 4, some (20, true)⟩,
  ⟨some 32, .pick (.t 20) (.t 31) (.k (.c (.lit (.bool false)))), none⟩] [0, 0, 3, 7, 15, 15, 63, 127, 15, 15, 527, 1807, 3855, 8191, 16383, 32767] 16 2)
 (.cond (.t 32) (.skip) (.exit 2)))
 (.block 3 (.reg [⟨some 33, .mov (.t 7), none⟩,
  ⟨some 34, .gen (.binOp .add 3 (.tmp 33) (.const (.int .i64 1)) 3) 3, none⟩,
  ⟨some 7, .mov (.t 34), none⟩]))
def A167_l1 : ACode := .seq (.seq (.reg [⟨some 64, .mov (.t 9), none⟩,
  ⟨some 65, .gen (.binOp .geq 3 (.tmp 64) (.const (.int .i64 1)) 3) 4, none⟩])
 (.cond (.t 65) (.skip) (.exit 4)))
 (.seq (.block 5 (.seq (.seq (.drw [⟨some 68, .mov (.t 0), none⟩,
  ⟨some 69, .mov (.t 9), none⟩,
  ⟨some 70, .idx 1 none (.t 68) (.t 69), none⟩,
  ⟨some 71, .load none (.t 70), none⟩,
  ⟨some 72, .mov (.t 0), none⟩,
  ⟨some 73, .mov (.t 9), none⟩,
  ⟨some 74, .gen (.binOp .sub 3 (.tmp 73) (.const (.int .i64 1)) 3) 3, none⟩,
  ⟨some 75, .idx 1 none (.t 72) (.t 74), none⟩,
  ⟨some 76, .load none (.t 75), none⟩,
  ⟨some 77, .call (.k (.c (.fn (.func 168) [] []))) [(.t 71), (.t 76)], none⟩,
  ⟨some 78, .gen (.unOp .not 4 (.tmp 77)) 4, none⟩] [0, 0, 3, 7, 0, 0, 32, 112, 240, 511, 1023] 11 2)
 (.cond (.t 78) (.exit 4) (.skip)))
 (.drw [⟨some 79, .mov (.t 0), none⟩,
  ⟨some 80, .mov (.t 9), none⟩,
  ⟨some 81, .mov (.t 0), none⟩,
  ⟨some 82, .mov (.t 9), none⟩,
  ⟨some 83, .gen (.binOp .sub 3 (.tmp 82) (.const (.int .i64 1)) 3) 3, none⟩,
  ⟨some 84, .mov (.t 0), none⟩,
  ⟨some 85, .mov (.t 9), none⟩,
  ⟨some 86, .gen (.binOp .sub 3 (.tmp 85) (.const (.int .i64 1)) 3) 3, none⟩,
  ⟨some 87, .idx 1 none (.t 84) (.t 86), none⟩,
  ⟨some 88, .load none (.t 87), none⟩,
  ⟨some 89, .mov (.t 0), none⟩,
  ⟨some 90, .mov (.t 9), none⟩,
  ⟨some 91, .idx 1 none (.t 89) (.t 90), none⟩,
  ⟨some 92, .load none (.t 91), none⟩,
  ⟨some 93, .idx 1 none (.t 79) (.t 80), none⟩,
  ⟨none, .store 1 (.t 93) (.t 88), none⟩,
  ⟨some 94, .idx 1 none (.t 81) (.t 83), none⟩,
  ⟨none, .store 1 (.t 94) (.t 92), none⟩] [0, 0, 0, 0, 8, 0, 0, 64, 224, 480, 0, 0, 3072, 7168, 16355, 32739, 65535, 131071] 18 4)))
 (.reg [⟨some 66, .mov (.t 9), none⟩,
  ⟨some 67, .gen (.binOp .sub 3 (.tmp 66) (.const (.int .i64 1)) 3) 3, none⟩,
  ⟨some 9, .mov (.t 67), none⟩]))
def A167_l2 : ACode := .seq (.seq (.reg [⟨some 101, .mov (.t 10), none⟩,
  ⟨some 102, .mov (.t 2), none⟩,
  ⟨some 103, .gen (.binOp .lss 3 (.tmp 101) (.tmp 102) 3) 4, none⟩])
 (.cond (.t 103) (.skip) (.exit 6)))
 (.seq (.block 7 (.seq (.seq (.drw [⟨some 106, .mov (.t 0), none⟩,
  ⟨some 107, .mov (.t 10), none⟩,
  ⟨some 108, .idx 1 none (.t 106) (.t 107), none⟩,
  ⟨some 109, .load none (.t 108), none⟩,
  ⟨some 110, .mov (.t 0), none⟩,
  ⟨some 111, .mov (.t 10), none⟩,
  ⟨some 112, .gen (.binOp .sub 3 (.tmp 111) (.const (.int .i64 1)) 3) 3, none⟩,
  ⟨some 113, .idx 1 none (.t 110) (.t 112), none⟩,
  ⟨some 114, .load none (.t 113), none⟩,
  ⟨some 115, .call (.k (.c (.fn (.func 168) [] []))) [(.t 109), (.t 114)], none⟩,
  ⟨some 116, .gen (.unOp .not 4 (.tmp 115)) 4, none⟩] [0, 0, 3, 7, 0, 0, 32, 112, 240, 511, 1023] 11 2)
 (.cond (.t 116) (.exit 6) (.skip)))
 (.drw [⟨some 117, .mov (.t 0), none⟩,
  ⟨some 118, .mov (.t 10), none⟩,
  ⟨some 119, .mov (.t 0), none⟩,
  ⟨some 120, .mov (.t 10), none⟩,
  ⟨some 121, .gen (.binOp .sub 3 (.tmp 120) (.const (.int .i64 1)) 3) 3, none⟩,
  ⟨some 122, .mov (.t 0), none⟩,
  ⟨some 123, .mov (.t 10), none⟩,
  ⟨some 124, .gen (.binOp .sub 3 (.tmp 123) (.const (.int .i64 1)) 3) 3, none⟩,
  ⟨some 125, .idx 1 none (.t 122) (.t 124), none⟩,
  ⟨some 126, .load none (.t 125), none⟩,
  ⟨some 127, .mov (.t 0), none⟩,
  ⟨some 128, .mov (.t 10), none⟩,
  ⟨some 129, .idx 1 none (.t 127) (.t 128), none⟩,
  ⟨some 130, .load none (.t 129), none⟩,
  ⟨some 131, .idx 1 none (.t 117) (.t 118), none⟩,
  ⟨none, .store 1 (.t 131) (.t 126), none⟩,
  ⟨some 132, .idx 1 none (.t 119) (.t 121), none⟩,
  ⟨none, .store 1 (.t 132) (.t 130), none⟩] [0, 0, 0, 0, 8, 0, 0, 64, 224, 480, 0, 0, 3072, 7168, 16355, 32739, 65535, 131071] 18 4)))
 (.reg [⟨some 104, .mov (.t 10), none⟩,
  ⟨some 105, .gen (.binOp .add 3 (.tmp 104) (.const (.int .i64 1)) 3) 3, none⟩,
  ⟨some 10, .mov (.t 105), none⟩]))
def A167_l3 : ACode := .seq (.seq (.reg [⟨some 13, .mov (.t 8), none⟩,
  ⟨some 14, .gen (.binOp .lss 3 (.tmp 13) (.const (.int .i64 5)) 3) 4, none⟩])
 (.cond (.t 14) (.skip) (.exit 0)))
 (.seq (.block 1 (.seq (.block 2 (.loop A167_l0))
 (.seq (.seq (.reg [⟨some 35, .mov (.t 7), none⟩,
  ⟨some 36, .mov (.t 2), none⟩,
  ⟨some 37, .gen (.binOp .eql 3 (.tmp 35) (.tmp 36) 3) 4, none⟩])
 (.cond (.t 37) (.seq (.reg [⟨some 6, .mov (.k (.c (.lit (.bool true)))), none⟩])
 (.ret)) (.skip)))
 (.seq (.seq (.reg [⟨some 38, .mov (.t 2), none⟩,
  ⟨some 39, .mov (.t 1), none⟩,
  ⟨some 40, .gen (.binOp .sub 3 (.tmp 38) (.tmp 39) 3) 3, none⟩,
  ⟨some 41, .gen (.binOp .lss 3 (.tmp 40) (.const (.int .i64 50)) 3) 4, none⟩])
 (.cond (.t 41) (.seq (.reg [⟨some 6, .mov (.k (.c (.lit (.bool false)))), none⟩])
 (.ret)) (.skip)))
 (.seq (.drw [⟨some 42, .mov (.t 0), none⟩,
  ⟨some 43, .mov (.t 7), none⟩,
  ⟨some 44, .mov (.t 0), none⟩,
  ⟨some 45, .mov (.t 7), none⟩,
  ⟨some 46, .gen (.binOp .sub 3 (.tmp 45) (.const (.int .i64 1)) 3) 3, none⟩,
  ⟨some 47, .mov (.t 0), none⟩,
  ⟨some 48, .mov (.t 7), none⟩,
  ⟨some 49, .gen (.binOp .sub 3 (.tmp 48) (.const (.int .i64 1)) 3) 3, none⟩,
  ⟨some 50, .idx 1 none (.t 47) (.t 49), none⟩,
  ⟨some 51, .load none (.t 50), none⟩,
  ⟨some 52, .mov (.t 0), none⟩,
  ⟨some 53, .mov (.t 7), none⟩,
  ⟨some 54, .idx 1 none (.t 52) (.t 53), none⟩,
  ⟨some 55, .load none (.t 54), none⟩,
  ⟨some 56, .idx 1 none (.t 42) (.t 43), none⟩,
  ⟨none, .store 1 (.t 56) (.t 51), none⟩,
  ⟨some 57, .idx 1 none (.t 44) (.t 46), none⟩,
  ⟨none, .store 1 (.t 57) (.t 55), none⟩] [0, 0, 0, 0, 8, 0, 0, 64, 224, 480, 0, 0, 3072, 7168, 16355, 32739, 65535, 131071] 18 4)
 (.seq (.seq (.reg [⟨some 58, .mov (.t 7), none⟩,
  ⟨some 59, .mov (.t 1), none⟩,
  ⟨some 60, .gen (.binOp .sub 3 (.tmp 58) (.tmp 59) 3) 3, none⟩,
  ⟨some 61, .gen (.binOp .geq 3 (.tmp 60) (.const (.int .i64 2)) 3) 4, none⟩])
 (.cond (.t 61) (.seq (.reg [⟨some 62, .mov (.t 7), none⟩,
  ⟨some 63, .gen (.binOp .sub 3 (.tmp 62) (.const (.int .i64 1)) 3) 3, none⟩,
  ⟨some 9, .mov (.t 63), none⟩])
 (.block 4 (.loop A167_l1))) (.skip)))
 (.seq (.reg [⟨some 95, .mov (.t 2), none⟩,
  ⟨some 96, .mov (.t 7), none⟩,
  ⟨some 97, .gen (.binOp .sub 3 (.tmp 95) (.tmp 96) 3) 3, none⟩,
  ⟨some 98, .gen (.binOp .geq 3 (.tmp 97) (.const (.int .i64 2)) 3) 4, none⟩])
 (.cond (.t 98) (.seq (.reg [⟨some 99, .mov (.t 7), none⟩,
  ⟨some 100, .gen (.binOp .add 3 (.tmp 99) (.const (.int .i64 1)) 3) 3, none⟩,
  ⟨some 10, .mov (.t 100), none⟩])
 (.block 6 (.loop A167_l2))) (.skip)))))))))
 (.reg [⟨some 15, .mov (.t 8), none⟩,
  ⟨some 16, .gen (.binOp .add 3 (.tmp 15) (.const (.int .i64 1)) 3) 3, none⟩,
  ⟨some 8, .mov (.t 16), none⟩]))
def A167 : AFunc := ⟨3, 133, [(6, none)], .seq (.reg [⟨some 6, .mov (.k (.c (.lit (.bool false)))), none⟩])
 (.seq (.reg [⟨some 11, .mov (.t 1), none⟩,
  ⟨some 12, .gen (.binOp .add 3 (.tmp 11) (.const (.int .i64 1)) 3) 3, none⟩,
  ⟨some 7, .mov (.t 12), none⟩])
 (.seq (.seq (.reg [⟨some 8, .mov (.k (.c (.lit (.int .i64 0)))), none⟩])
 (.block 0 (.loop A167_l3)))
 (.seq (.reg [⟨some 6, .mov (.k (.c (.lit (.bool false)))), none⟩])
 (.ret)))), true⟩
theorem C167 : compF Tryz.prog Tryz.f167 true = some A167 := by kernel_rfl

/- cmp.Less[int] -/
def A168 : AFunc := ⟨2, 17, [(4, none)], .seq (.reg [⟨some 4, .mov (.k (.c (.lit (.bool false)))), none⟩])
 (.seq (.reg [⟨some 5, .mov (.t 0), none⟩,
  ⟨some 6, .call (.k (.c (.fn (.func 180) [] []))) [(.t 5)], none⟩,
  ⟨some 7, .mov (.t 6), none⟩,
  ⟨some 8, .mov (.t 1), some (7, true)⟩,
  ⟨some 9, .call (.k (.c (.fn (.func 180) [] []))) [(.t 8)], some (7, true)⟩,
  ⟨some 10, .gen (.unOp .not 4 (.tmp 9)) 4, some (7, true)⟩,
  ⟨some 11, .pick (.t 7) (.t 10) (.k (.c (.lit (.bool false)))), none⟩,
  ⟨some 12, .mov (.t 11), none⟩,
  ⟨some 13, .mov (.t 0), some (12, false)⟩,
  ⟨some 14, .mov (.t 1), some (12, false)⟩,
  ⟨some 15, .gen (.binOp .lss 3 (.tmp 13) (.tmp 14) 3) 4, some (12, false)⟩,
  ⟨some 16, .pick (.t 12) (.k (.c (.lit (.bool true)))) (.t 15), none⟩,
  ⟨some 4, .mov (.t 16), none⟩])
 (.ret)), true⟩
theorem C168 : compF Tryz.prog Tryz.f168 true = some A168 := by kernel_rfl

/- slices.partitionEqualOrdered[int] -/
def A169_l0 : ACode := .seq (.seq (.drw [⟨some 29, .mov (.t 9), none⟩,
  ⟨some 30, .mov (.t 10), none⟩,
  ⟨some 31, .gen (.binOp .leq 3 (.tmp 29) (.tmp 30) 3) 4, none⟩,
  ⟨some 32, .mov (.t 31), none⟩,
  ⟨some 33, .mov (.t 0), some (32, true)⟩,
  ⟨some 34, .mov (.t 1), some (32, true)⟩,
  ⟨some 35, .idx 1 none (.t 33) (.t 34), some (32, true)⟩,
  ⟨some 36, .load none (.t 35), some (32, true)⟩,
  ⟨some 37, .mov (.t 0), some (32, true)⟩,
  ⟨some 38, .mov (.t 9), some (32, true)⟩,
  ⟨some 39, .idx 1 none (.t 37) (.t 38), some (32, true)⟩,
  ⟨some 40, .load none (.t 39), some (32, true)⟩,
  ⟨some 41, .call (.k (.c (.fn (.func 168) [] []))) [(.t 36), (.t 40)], some (32, true)⟩,
  ⟨some 42, .gen (.unOp .not 4 (.tmp 41)) 4, some (32, true)⟩,
  ⟨some 43, .pick (.t 32) (.t 42) (.k (.c (.lit (.bool false)))), none⟩] [0, 0, 3, 7, 15, 15, 63, 127, 15, 15, 783, 1807, 4095, 8191, 16383] 15 2)
 (.cond (.t 43) (.skip) (.exit 2)))
 (.block 3 (.reg [⟨some 44, .mov (.t 9), none⟩,
  ⟨some 45, .gen (.binOp .add 3 (.tmp 44) (.const (.int .i64 1)) 3) 3, none⟩,
  ⟨some 9, .mov (.t 45), none⟩]))
def A169_l1 : ACode := .seq (.seq (.drw [⟨some 46, .mov (.t 9), none⟩,
  ⟨some 47, .mov (.t 10), none⟩,
  ⟨some 48, .gen (.binOp .leq 3 (.tmp 46) (.tmp 47) 3) 4, none⟩,
  ⟨some 49, .mov (.t 48), none⟩,
  ⟨some 50, .mov (.t 0), some (49, true)⟩,
  ⟨some 51, .mov (.t 1), some (49, true)⟩,
  ⟨some 52, .idx 1 none (.t 50) (.t 51), some (49, true)⟩,
  ⟨some 53, .load none (.t 52), some (49, true)⟩,
  ⟨some 54, .mov (.t 0), some (49, true)⟩,
  ⟨some 55, .mov (.t 10), some (49, true)⟩,
  ⟨some 56, .idx 1 none (.t 54) (.t 55), some (49, true)⟩,
  ⟨some 57, .load none (.t 56), some (49, true)⟩,
  ⟨some 58, .call (.k (.c (.fn (.func 168) [] []))) [(.t 53), (.t 57)], some (49, true)⟩,
  ⟨some 59, .pick (.t 49) (.t 58) (.k (.c (.lit (.bool false)))), none⟩] [0, 0, 3, 7, 15, 15, 63, 127, 15, 15, 783, 1807, 4095, 8191] 14 2)
 (.cond (.t 59) (.skip) (.exit 4)))
 (.block 5 (.reg [⟨some 60, .mov (.t 10), none⟩,
  ⟨some 61, .gen (.binOp .sub 3 (.tmp 60) (.const (.int .i64 1)) 3) 3, none⟩,
  ⟨some 10, .mov (.t 61), none⟩]))
def A169_l2 : ACode := .block 1 (.seq (.block 2 (.loop A169_l0))
 (.seq (.block 4 (.loop A169_l1))
 (.seq (.seq (.reg [⟨some 62, .mov (.t 9), none⟩,
  ⟨some 63, .mov (.t 10), none⟩,
  ⟨some 64, .gen (.binOp .gtr 3 (.tmp 62) (.tmp 63) 3) 4, none⟩])
 (.cond (.t 64) (.exit 0) (.skip)))
 (.seq (.drw [⟨some 65, .mov (.t 0), none⟩,
  ⟨some 66, .mov (.t 9), none⟩,
  ⟨some 67, .mov (.t 0), none⟩,
  ⟨some 68, .mov (.t 10), none⟩,
  ⟨some 69, .mov (.t 0), none⟩,
  ⟨some 70, .mov (.t 10), none⟩,
  ⟨some 71, .idx 1 none (.t 69) (.t 70), none⟩,
  ⟨some 72, .load none (.t 71), none⟩,
  ⟨some 73, .mov (.t 0), none⟩,
  ⟨some 74, .mov (.t 9), none⟩,
  ⟨some 75, .idx 1 none (.t 73) (.t 74), none⟩,
  ⟨some 76, .load none (.t 75), none⟩,
  ⟨some 77, .idx 1 none (.t 65) (.t 66), none⟩,
  ⟨none, .store 1 (.t 77) (.t 72), none⟩,
  ⟨some 78, .idx 1 none (.t 67) (.t 68), none⟩,
  ⟨none, .store 1 (.t 78) (.t 76), none⟩] [0, 0, 0, 0, 0, 0, 48, 112, 0, 0, 768, 1792, 4083, 8179, 16383, 32767] 16 6)
 (.seq (.reg [⟨some 79, .mov (.t 9), none⟩,
  ⟨some 80, .gen (.binOp .add 3 (.tmp 79) (.const (.int .i64 1)) 3) 3, none⟩,
  ⟨some 9, .mov (.t 80), none⟩])
 (.reg [⟨some 81, .mov (.t 10), none⟩,
  ⟨some 82, .gen (.binOp .sub 3 (.tmp 81) (.const (.int .i64 1)) 3) 3, none⟩,
  ⟨some 10, .mov (.t 82), none⟩]))))))
def A169 : AFunc := ⟨4, 84, [(8, none)], .seq (.reg [⟨some 8, .mov (.k (.c (.lit (.int .i64 0)))), none⟩])
 (.seq (.drw [⟨some 11, .mov (.t 0), none⟩,
  ⟨some 12, .mov (.t 1), none⟩,
  ⟨some 13, .mov (.t 0), none⟩,
  ⟨some 14, .mov (.t 3), none⟩,
  ⟨some 15, .mov (.t 0), none⟩,
  ⟨some 16, .mov (.t 3), none⟩,
  ⟨some 17, .idx 1 none (.t 15) (.t 16), none⟩,
  ⟨some 18, .load none (.t 17), none⟩,
  ⟨some 19, .mov (.t 0), none⟩,
  ⟨some 20, .mov (.t 1), none⟩,
  ⟨some 21, .idx 1 none (.t 19) (.t 20), none⟩,
  ⟨some 22, .load none (.t 21), none⟩,
  ⟨some 23, .idx 1 none (.t 11) (.t 12), none⟩,
  ⟨none, .store 1 (.t 23) (.t 18), none⟩,
  ⟨some 24, .idx 1 none (.t 13) (.t 14), none⟩,
  ⟨none, .store 1 (.t 24) (.t 22), none⟩] [0, 0, 0, 0, 0, 0, 48, 112, 0, 0, 768, 1792, 4083, 8179, 16383, 32767] 16 6)
 (.seq (.reg [⟨some 25, .mov (.t 1), none⟩,
  ⟨some 26, .gen (.binOp .add 3 (.tmp 25) (.const (.int .i64 1)) 3) 3, none⟩,
  ⟨some 27, .mov (.t 2), none⟩,
  ⟨some 28, .gen (.binOp .sub 3 (.tmp 27) (.const (.int .i64 1)) 3) 3, none⟩,
  ⟨some 9, .mov (.t 26), none⟩,
  ⟨some 10, .mov (.t 28), none⟩])
 (.seq (.block 0 (.loop A169_l2))
 (.seq (.reg [⟨some 83, .mov (.t 9), none⟩,
  ⟨some 8, .mov (.t 83), none⟩])
 (.ret))))), true⟩
theorem C169 : compF Tryz.prog Tryz.f169 true = some A169 := by kernel_rfl

/- slices.partitionOrdered[int] -/
def A170_l0 : ACode := .seq (.seq (.drw [⟨some 30, .mov (.t 10), none⟩,
  ⟨some 31, .mov (.t 11), none⟩,
  ⟨some 32, .gen (.binOp .leq 3 (.tmp 30) (.tmp 31) 3) 4, none⟩,
  ⟨some 33, .mov (.t 32), none⟩,
  ⟨some 34, .mov (.t 0), some (33, true)⟩,
  ⟨some 35, .mov (.t 10), some (33, true)⟩,
  ⟨some 36, .idx 1 none (.t 34) (.t 35), some (33, true)⟩,
  ⟨some 37, .load none (.t 36), some (33, true)⟩,
  ⟨some 38, .mov (.t 0), some (33, true)⟩,
  ⟨some 39, .mov (.t 1), some (33, true)⟩,
  ⟨some 40, .idx 1 none (.t 38) (.t 39), some (33, true)⟩,
  ⟨some 41, .load none (.t 40), some (33, true)⟩,
  ⟨some 42, .call (.k (.c (.fn (.func 168) [] []))) [(.t 37), (.t 41)], some (33, true)⟩,
  ⟨some 43, .pick (.t 33) (.t 42) (.k (.c (.lit (.bool false)))), none⟩] [0, 0, 3, 7, 15, 15, 63, 127, 15, 15, 783, 1807, 4095, 8191] 14 2)
 (.cond (.t 43) (.skip) (.exit 0)))
 (.block 1 (.reg [⟨some 44, .mov (.t 10), none⟩,
  ⟨some 45, .gen (.binOp .add 3 (.tmp 44) (.const (.int .i64 1)) 3) 3, none⟩,
  ⟨some 10, .mov (.t 45), none⟩]))
def A170_l1 : ACode := .seq (.seq (.drw [⟨some 46, .mov (.t 10), none⟩,
  ⟨some 47, .mov (.t 11), none⟩,
  ⟨some 48, .gen (.binOp .leq 3 (.tmp 46) (.tmp 47) 3) 4, none⟩,
  ⟨some 49, .mov (.t 48), none⟩,
  ⟨some 50, .mov (.t 0), some (49, true)⟩,
  ⟨some 51, .mov (.t 11), some (49, true)⟩,
  ⟨some 52, .idx 1 none (.t 50) (.t 51), some (49, true)⟩,
  ⟨some 53, .load none (.t 52), some (49, true)⟩,
  ⟨some 54, .mov (.t 0), some (49, true)⟩,
  ⟨some 55, .mov (.t 1), some (49, true)⟩,
  ⟨some 56, .idx 1 none (.t 54) (.t 55), some (49, true)⟩,
  ⟨some 57, .load none (.t 56), some (49, true)⟩,
  ⟨some 58, .call (.k (.c (.fn (.func 168) [] []))) [(.t 53), (.t 57)], some (49, true)⟩,
  ⟨some 59, .gen (.unOp .not 4 (.tmp 58)) 4, some (49, true)⟩,
  ⟨some 60, .pick (.t 49) (.t 59) (.k (.c (.lit (.bool false)))), none⟩] [0, 0, 3, 7, 15, 15, 63, 127, 15, 15, 783, 1807, 4095, 8191, 16383] 15 2)
 (.cond (.t 60) (.skip) (.exit 2)))
 (.block 3 (.reg [⟨some 61, .mov (.t 11), none⟩,
  ⟨some 62, .gen (.binOp .sub 3 (.tmp 61) (.const (.int .i64 1)) 3) 3, none⟩,
  ⟨some 11, .mov (.t 62), none⟩]))
def A170_l2 : ACode := .seq (.seq (.drw [⟨some 99, .mov (.t 10), none⟩,
  ⟨some 100, .mov (.t 11), none⟩,
  ⟨some 101, .gen (.binOp .leq 3 (.tmp 99) (.tmp 100) 3) 4, none⟩,
  ⟨some 102, .mov (.t 101), none⟩,
  ⟨some 103, .mov (.t 0), some (102, true)⟩,
  ⟨some 104, .mov (.t 10), some (102, true)⟩,
  ⟨some 105, .idx 1 none (.t 103) (.t 104), some (102, true)⟩,
  ⟨some 106, .load none (.t 105), some (102, true)⟩,
  ⟨some 107, .mov (.t 0), some (102, true)⟩,
  ⟨some 108, .mov (.t 1), some (102, true)⟩,
  ⟨some 109, .idx 1 none (.t 107) (.t 108), some (102, true)⟩,
  ⟨some 110, .load none (.t 109), some (102, true)⟩,
  ⟨some 111, .call (.k (.c (.fn (.func 168) [] []))) [(.t 106), (.t 110)], some (102, true)⟩,
  ⟨some 112, .pick (.t 102) (.t 111) (.k (.c (.lit (.bool false)))), none⟩] [0, 0, 3, 7, 15, 15, 63, 127, 15, 15, 783, 1807, 4095, 8191] 14 2)
 (.cond (.t 112) (.skip) (.exit 6)))
 (.block 7 (.reg [⟨some 113, .mov (.t 10), none⟩,
  ⟨some 114, .gen (.binOp .add 3 (.tmp 113) (.const (.int .i64 1)) 3) 3, none⟩,
  ⟨some 10, .mov (.t 114), none⟩]))
def A170_l3 : ACode := .seq (.seq (.drw [⟨some 115, .mov (.t 10), none⟩,
  ⟨some 116, .mov (.t 11), none⟩,
  ⟨some 117, .gen (.binOp .leq 3 (.tmp 115) (.tmp 116) 3) 4, none⟩,
  ⟨some 118, .mov (.t 117), none⟩,
  ⟨some 119, .mov (.t 0), some (118, true)⟩,
  ⟨some 120, .mov (.t 11), some (118, true)⟩,
  ⟨some 121, .idx 1 none (.t 119) (.t 120), some (118, true)⟩,
  ⟨some 122, .load none (.t 121), some (118, true)⟩,
  ⟨some 123, .mov (.t 0), some (118, true)⟩,
  ⟨some 124, .mov (.t 1), some (118, true)⟩,
  ⟨some 125, .idx 1 none (.t 123) (.t 124), some (118, true)⟩,
  ⟨some 126, .load none (.t 125), some (118, true)⟩,
  ⟨some 127, .call (.k (.c (.fn (.func 168) [] []))) [(.t 122), (.t 126)], some (118, true)⟩,
  ⟨some 128, .gen (.unOp .not 4 (.tmp 127)) 4, some (118, true)⟩,
  ⟨some 129, .pick (.t 118) (.t 128) (.k (.c (.lit (.bool false)))), none⟩] [0, 0, 3, 7, 15, 15, 63, 127, 15, 15, 783, 1807, 4095, 8191, 16383] 15 2)
 (.cond (.t 129) (.skip) (.exit 8)))
 (.block 9 (.reg [⟨some 130, .mov (.t 11), none⟩,
  ⟨some 131, .gen (.binOp .sub 3 (.tmp 130) (.const (.int .i64 1)) 3) 3, none⟩,
  ⟨some 11, .mov (.t 131), none⟩]))
def A170_l4 : ACode := .block 5 (.seq (.block 6 (.loop A170_l2))
 (.seq (.block 8 (.loop A170_l3))
 (.seq (.seq (.reg [⟨some 132, .mov (.t 10), none⟩,
  ⟨some 133, .mov (.t 11), none⟩,
  ⟨some 134, .gen (.binOp .gtr 3 (.tmp 132) (.tmp 133) 3) 4, none⟩])
 (.cond (.t 134) (.exit 4) (.skip)))
 (.seq (.drw [⟨some 135, .mov (.t 0), none⟩,
  ⟨some 136, .mov (.t 10), none⟩,
  ⟨some 137, .mov (.t 0), none⟩,
  ⟨some 138, .mov (.t 11), none⟩,
  ⟨some 139, .mov (.t 0), none⟩,
  ⟨some 140, .mov (.t 11), none⟩,
  ⟨some 141, .idx 1 none (.t 139) (.t 140), none⟩,
  ⟨some 142, .load none (.t 141), none⟩,
  ⟨some 143, .mov (.t 0), none⟩,
  ⟨some 144, .mov (.t 10), none⟩,
  ⟨some 145, .idx 1 none (.t 143) (.t 144), none⟩,
  ⟨some 146, .load none (.t 145), none⟩,
  ⟨some 147, .idx 1 none (.t 135) (.t 136), none⟩,
  ⟨none, .store 1 (.t 147) (.t 142), none⟩,
  ⟨some 148, .idx 1 none (.t 137) (.t 138), none⟩,
  ⟨none, .store 1 (.t 148) (.t 146), none⟩] [0, 0, 0, 0, 0, 0, 48, 112, 0, 0, 768, 1792, 4083, 8179, 16383, 32767] 16 6)
 (.seq (.reg [⟨some 149, .mov (.t 10), none⟩,
  ⟨some 150, .gen (.binOp .add 3 (.tmp 149) (.const (.int .i64 1)) 3) 3, none⟩,
  ⟨some 10, .mov (.t 150), none⟩])
 (.reg [⟨some 151, .mov (.t 11), none⟩,
  ⟨some 152, .gen (.binOp .sub 3 (.tmp 151) (.const (.int .i64 1)) 3) 3, none⟩,
  ⟨some 11, .mov (.t 152), none⟩]))))))
def A170 : AFunc := ⟨4, 168, [(8, none), (9, none)], .seq (.reg [⟨some 8, .mov (.k (.c (.lit (.int .i64 0)))), none⟩,
  ⟨some 9, .mov (.k (.c (.lit (.bool false)))), none⟩])
 (.seq (.drw [⟨some 12, .mov (.t 0), none⟩,
  ⟨some 13, .mov (.t 1), none⟩,
  ⟨some 14, .mov (.t 0), none⟩,
  ⟨some 15, .mov (.t 3), none⟩,
  ⟨some 16, .mov (.t 0), none⟩,
  ⟨some 17, .mov (.t 3), none⟩,
  ⟨some 18, .idx 1 none (.t 16) (.t 17), none⟩,
  ⟨some 19, .load none (.t 18), none⟩,
  ⟨some 20, .mov (.t 0), none⟩,
  ⟨some 21, .mov (.t 1), none⟩,
  ⟨some 22, .idx 1 none (.t 20) (.t 21), none⟩,
  ⟨some 23, .load none (.t 22), none⟩,
  ⟨some 24, .idx 1 none (.t 12) (.t 13), none⟩,
  ⟨none, .store 1 (.t 24) (.t 19), none⟩,
  ⟨some 25, .idx 1 none (.t 14) (.t 15), none⟩,
  ⟨none, .store 1 (.t 25) (.t 23), none⟩] [0, 0, 0, 0, 0, 0, 48, 112, 0, 0, 768, 1792, 4083, 8179, 16383, 32767] 16 6)
 (.seq (.reg [⟨some 26, .mov (.t 1), none⟩,
  ⟨some 27, .gen (.binOp .add 3 (.tmp 26) (.const (.int .i64 1)) 3) 3, none⟩,
  ⟨some 28, .mov (.t 2), none⟩,
  ⟨some 29, .gen (.binOp .sub 3 (.tmp 28) (.const (.int .i64 1)) 3) 3, none⟩,
  ⟨some 10, .mov (.t 27), none⟩,
  ⟨some 11, .mov (.t 29), none⟩])
 (.seq (.block 0 (.loop A170_l0))
 (.seq (.block 2 (.loop A170_l1))
 (.seq (.seq (.reg [⟨some 63, .mov (.t 10), none⟩,
  ⟨some 64, .mov (.t 11), none⟩,
  ⟨some 65, .gen (.binOp .gtr 3 (.tmp 63) (.tmp 64) 3) 4, none⟩])
 (.cond (.t 65) (.seq (.drw [⟨some 66, .mov (.t 0), none⟩,
  ⟨some 67, .mov (.t 11), none⟩,
  ⟨some 68, .mov (.t 0), none⟩,
  ⟨some 69, .mov (.t 1), none⟩,
  ⟨some 70, .mov (.t 0), none⟩,
  ⟨some 71, .mov (.t 1), none⟩,
  ⟨some 72, .idx 1 none (.t 70) (.t 71), none⟩,
  ⟨some 73, .load none (.t 72), none⟩,
  ⟨some 74, .mov (.t 0), none⟩,
  ⟨some 75, .mov (.t 11), none⟩,
  ⟨some 76, .idx 1 none (.t 74) (.t 75), none⟩,
  ⟨some 77, .load none (.t 76), none⟩,
  ⟨some 78, .idx 1 none (.t 66) (.t 67), none⟩,
  ⟨none, .store 1 (.t 78) (.t 73), none⟩,
  ⟨some 79, .idx 1 none (.t 68) (.t 69), none⟩,
  ⟨none, .store 1 (.t 79) (.t 77), none⟩] [0, 0, 0, 0, 0, 0, 48, 112, 0, 0, 768, 1792, 4083, 8179, 16383, 32767] 16 6)
 (.seq (.reg [⟨some 80, .mov (.t 11), none⟩,
  ⟨some 8, .mov (.t 80), none⟩,
  ⟨some 9, .mov (.k (.c (.lit (.bool true)))), none⟩])
 (.ret))) (.skip)))
 (.seq (.drw [⟨some 81, .mov (.t 0), none⟩,
  ⟨some 82, .mov (.t 10), none⟩,
  ⟨some 83, .mov (.t 0), none⟩,
  ⟨some 84, .mov (.t 11), none⟩,
  ⟨some 85, .mov (.t 0), none⟩,
  ⟨some 86, .mov (.t 11), none⟩,
  ⟨some 87, .idx 1 none (.t 85) (.t 86), none⟩,
  ⟨some 88, .load none (.t 87), none⟩,
  ⟨some 89, .mov (.t 0), none⟩,
  ⟨some 90, .mov (.t 10), none⟩,
  ⟨some 91, .idx 1 none (.t 89) (.t 90), none⟩,
  ⟨some 92, .load none (.t 91), none⟩,
  ⟨some 93, .idx 1 none (.t 81) (.t 82), none⟩,
  ⟨none, .store 1 (.t 93) (.t 88), none⟩,
  ⟨some 94, .idx 1 none (.t 83) (.t 84), none⟩,
  ⟨none, .store 1 (.t 94) (.t 92), none⟩] [0, 0, 0, 0, 0, 0, 48, 112, 0, 0, 768, 1792, 4083, 8179, 16383, 32767] 16 6)
 (.seq (.reg [⟨some 95, .mov (.t 10), none⟩,
  ⟨some 96, .gen (.binOp .add 3 (.tmp 95) (.const (.int .i64 1)) 3) 3, none⟩,
  ⟨some 10, .mov (.t 96), none⟩])
 (.seq (.reg [⟨some 97, .mov (.t 11), none⟩,
  ⟨some 98, .gen (.binOp .sub 3 (.tmp 97) (.const (.int .i64 1)) 3) 3, none⟩,
  ⟨some 11, .mov (.t 98), none⟩])
 (.seq (.block 4 (.loop A170_l4))
 (.seq (.drw [⟨some 153, .mov (.t 0), none⟩,
  ⟨some 154, .mov (.t 11), none⟩,
  ⟨some 155, .mov (.t 0), none⟩,
  ⟨some 156, .mov (.t 1), none⟩,
  ⟨some 157, .mov (.t 0), none⟩,
  ⟨some 158, .mov (.t 1), none⟩,
  ⟨some 159, .idx 1 none (.t 157) (.t 158), none⟩,
  ⟨some 160, .load none (.t 159), none⟩,
  ⟨some 161, .mov (.t 0), none⟩,
  ⟨some 162, .mov (.t 11), none⟩,
  ⟨some 163, .idx 1 none (.t 161) (.t 162), none⟩,
  ⟨some 164, .load none (.t 163), none⟩,
  ⟨some 165, .idx 1 none (.t 153) (.t 154), none⟩,
  ⟨none, .store 1 (.t 165) (.t 160), none⟩,
  ⟨some 166, .idx 1 none (.t 155) (.t 156), none⟩,
  ⟨none, .store 1 (.t 166) (.t 164), none⟩] [0, 0, 0, 0, 0, 0, 48, 112, 0, 0, 768, 1792, 4083, 8179, 16383, 32767] 16 6)
 (.seq (.reg [⟨some 167, .mov (.t 11), none⟩,
  ⟨some 8, .mov (.t 167), none⟩,
  ⟨some 9, .mov (.k (.c (.lit (.bool false)))), none⟩])
 (.ret)))))))))))), true⟩
theorem C170 : compF Tryz.prog Tryz.f170 true = some A170 := by kernel_rfl

/- math/bits.Len32 -/
def A171 : AFunc := ⟨1, 19, [(2, none)], .seq (.reg [⟨some 2, .mov (.k (.c (.lit (.int .i64 0)))), none⟩])
 (.seq (.seq (.reg [⟨some 3, .mov (.t 0), none⟩,
  ⟨some 4, .gen (.binOp .geq 225 (.tmp 3) (.const (.int .u32 65536)) 225) 4, none⟩])
 (.cond (.t 4) (.seq (.reg [⟨some 5, .mov (.t 0), none⟩,
  ⟨some 6, .gen (.binOp .shr 225 (.tmp 5) (.const (.int .u64 16)) 207) 225, none⟩,
  ⟨some 0, .mov (.t 6), none⟩])
 (.reg [⟨some 2, .mov (.k (.c (.lit (.int .i64 16)))), none⟩])) (.skip)))
 (.seq (.seq (.reg [⟨some 7, .mov (.t 0), none⟩,
  ⟨some 8, .gen (.binOp .geq 225 (.tmp 7) (.const (.int .u32 256)) 225) 4, none⟩])
 (.cond (.t 8) (.seq (.reg [⟨some 9, .mov (.t 0), none⟩,
  ⟨some 10, .gen (.binOp .shr 225 (.tmp 9) (.const (.int .u64 8)) 207) 225, none⟩,
  ⟨some 0, .mov (.t 10), none⟩])
 (.reg [⟨some 11, .mov (.t 2), none⟩,
  ⟨some 12, .gen (.binOp .add 3 (.tmp 11) (.const (.int .i64 8)) 3) 3, none⟩,
  ⟨some 2, .mov (.t 12), none⟩])) (.skip)))
 (.seq (.reg [⟨some 13, .mov (.t 2), none⟩,
  ⟨some 14, .mov (.t 0), none⟩,
  ⟨some 15, .gen (.convert 225 5 (.tmp 14)) 5, none⟩,
  ⟨some 16, .gen (.index 9 (.const (.string ⟨#[0, 1, 2, 2, 3, 3, 3, 3, 4, 4, 4, 4, 4, 4, 4, 4, 5, 5, 5, 5, 5, 5, 5, 5, 5, 5, 5, 5, 5, 5, 5, 5, 6, 6, 6, 6, 6, 6, 6, 6, 6, 6, 6, 6, 6, 6, 6, 6, 6, 6, 6, 6, 6, 6, 6, 6, 6, 6, 6, 6, 6, 6, 6, 6, 7, 7, 7, 7, 7, 7, 7, 7, 7, 7, 7, 7, 7, 7, 7, 7, 7, 7, 7, 7, 7, 7, 7, 7, 7, 7, 7, 7, 7, 7, 7, 7, 7, 7, 7, 7, 7, 7, 7, 7, 7, 7, 7, 7, 7, 7, 7, 7, 7, 7, 7, 7, 7, 7, 7, 7, 7, 7, 7, 7, 7, 7, 7, 7, 8, 8, 8, 8, 8, 8, 8, 8, 8, 8, 8, 8, 8, 8, 8, 8, 8, 8, 8, 8, 8, 8, 8, 8, 8, 8, 8, 8, 8, 8, 8, 8, 8, 8, 8, 8, 8, 8, 8, 8, 8, 8, 8, 8, 8, 8, 8, 8, 8, 8, 8, 8, 8, 8, 8, 8, 8, 8, 8, 8, 8, 8, 8, 8, 8, 8, 8, 8, 8, 8, 8, 8, 8, 8, 8, 8, 8, 8, 8, 8, 8, 8, 8, 8, 8, 8, 8, 8, 8, 8, 8, 8, 8, 8, 8, 8, 8, 8, 8, 8, 8, 8, 8, 8, 8, 8, 8, 8, 8, 8, 8, 8, 8, 8, 8, 8, 8, 8, 8, 8, 8, 8, 8, 8, 8, 8, 8, 8]⟩)) (.tmp 15)) 5, none⟩,
  ⟨some 17, .gen (.convert 5 3 (.tmp 16)) 3, none⟩,
  ⟨some 18, .gen (.binOp .add 3 (.tmp 13) (.tmp 17) 3) 3, none⟩,
  ⟨some 2, .mov (.t 18), none⟩])
 (.ret)))), true⟩
theorem C171 : compF Tryz.prog Tryz.f171 true = some A171 := by kernel_rfl

/- math/bits.Len64 -/
def A172 : AFunc := ⟨1, 25, [(2, none)], .seq (.reg [⟨some 2, .mov (.k (.c (.lit (.int .i64 0)))), none⟩])
 (.seq (.seq (.reg [⟨some 3, .mov (.t 0), none⟩,
  ⟨some 4, .gen (.binOp .geq 227 (.tmp 3) (.const (.int .u64 4294967296)) 227) 4, none⟩])
 (.cond (.t 4) (.seq (.reg [⟨some 5, .mov (.t 0), none⟩,
  ⟨some 6, .gen (.binOp .shr 227 (.tmp 5) (.const (.int .u64 32)) 207) 227, none⟩,
  ⟨some 0, .mov (.t 6), none⟩])
 (.reg [⟨some 2, .mov (.k (.c (.lit (.int .i64 32)))), none⟩])) (.skip)))
 (.seq (.seq (.reg [⟨some 7, .mov (.t 0), none⟩,
  ⟨some 8, .gen (.binOp .geq 227 (.tmp 7) (.const (.int .u64 65536)) 227) 4, none⟩])
 (.cond (.t 8) (.seq (.reg [⟨some 9, .mov (.t 0), none⟩,
  ⟨some 10, .gen (.binOp .shr 227 (.tmp 9) (.const (.int .u64 16)) 207) 227, none⟩,
  ⟨some 0, .mov (.t 10), none⟩])
 (.reg [⟨some 11, .mov (.t 2), none⟩,
  ⟨some 12, .gen (.binOp .add 3 (.tmp 11) (.const (.int .i64 16)) 3) 3, none⟩,
  ⟨some 2, .mov (.t 12), none⟩])) (.skip)))
 (.seq (.seq (.reg [⟨some 13, .mov (.t 0), none⟩,
  ⟨some 14, .gen (.binOp .geq 227 (.tmp 13) (.const (.int .u64 256)) 227) 4, none⟩])
 (.cond (.t 14) (.seq (.reg [⟨some 15, .mov (.t 0), none⟩,
  ⟨some 16, .gen (.binOp .shr 227 (.tmp 15) (.const (.int .u64 8)) 207) 227, none⟩,
  ⟨some 0, .mov (.t 16), none⟩])
 (.reg [⟨some 17, .mov (.t 2), none⟩,
  ⟨some 18, .gen (.binOp .add 3 (.tmp 17) (.const (.int .i64 8)) 3) 3, none⟩,
  ⟨some 2, .mov (.t 18), none⟩])) (.skip)))
 (.seq (.reg [⟨some 19, .mov (.t 2), none⟩,
  ⟨some 20, .mov (.t 0), none⟩,
  ⟨some 21, .gen (.convert 227 5 (.tmp 20)) 5, none⟩,
  ⟨some 22, .gen (.index 9 (.const (.string ⟨#[0, 1, 2, 2, 3, 3, 3, 3, 4, 4, 4, 4, 4, 4, 4, 4, 5, 5, 5, 5, 5, 5, 5, 5, 5, 5, 5, 5, 5, 5, 5, 5, 6, 6, 6, 6, 6, 6, 6, 6, 6, 6, 6, 6, 6, 6, 6, 6, 6, 6, 6, 6, 6, 6, 6, 6, 6, 6, 6, 6, 6, 6, 6, 6, 7, 7, 7, 7, 7, 7, 7, 7, 7, 7, 7, 7, 7, 7, 7, 7, 7, 7, 7, 7, 7, 7, 7, 7, 7, 7, 7, 7, 7, 7, 7, 7, 7, 7, 7, 7, 7, 7, 7, 7, 7, 7, 7, 7, 7, 7, 7, 7, 7, 7, 7, 7, 7, 7, 7, 7, 7, 7, 7, 7, 7, 7, 7, 7, 8, 8, 8, 8, 8, 8, 8, 8, 8, 8, 8, 8, 8, 8, 8, 8, 8, 8, 8, 8, 8, 8, 8, 8, 8, 8, 8, 8, 8, 8, 8, 8, 8, 8, 8, 8, 8, 8, 8, 8, 8, 8, 8, 8, 8, 8, 8, 8, 8, 8, 8, 8, 8, 8, 8, 8, 8, 8, 8, 8, 8, 8, 8, 8, 8, 8, 8, 8, 8, 8, 8, 8, 8, 8, 8, 8, 8, 8, 8, 8, 8, 8, 8, 8, 8, 8, 8, 8, 8, 8, 8, 8, 8, 8, 8, 8, 8, 8, 8, 8, 8, 8, 8, 8, 8, 8, 8, 8, 8, 8, 8, 8, 8, 8, 8, 8, 8, 8, 8, 8, 8, 8, 8, 8, 8, 8, 8, 8]⟩)) (.tmp 21)) 5, none⟩,
  ⟨some 23, .gen (.convert 5 3 (.tmp 22)) 3, none⟩,
  ⟨some 24, .gen (.binOp .add 3 (.tmp 19) (.tmp 23) 3) 3, none⟩,
  ⟨some 2, .mov (.t 24), none⟩])
 (.ret))))), true⟩
theorem C172 : compF Tryz.prog Tryz.f172 true = some A172 := by kernel_rfl

/- drayage/spec.ascending -/
def A173_l0 : ACode := .seq (.reg [⟨some 11, .gen (.binOp .lss 3 (.tmp 10) (.tmp 9) 3) 0, none⟩])
 (.seq (.cond (.t 11) (.skip) (.exit 0))
 (.seq (.block 1 (.seq (.reg [⟨some 12, .idx 1 none (.t 8) (.t 10), none⟩,
  ⟨some 13, .load none (.t 12), none⟩,
  ⟨some 7, .mov (.t 13), none⟩])
 (.seq (.seq (.reg [⟨some 14, .mov (.t 7), none⟩,
  ⟨some 15, .mov (.t 5), none⟩,
  ⟨some 16, .gen (.binOp .leq 3 (.tmp 14) (.tmp 15) 3) 4, none⟩,
  ⟨some 17, .mov (.t 16), none⟩,
  ⟨some 18, .mov (.t 7), some (17, false)⟩,
  ⟨some 19, .mov (.t 1), some (17, false)⟩,
  ⟨some 20, .gen (.binOp .geq 3 (.tmp 18) (.tmp 19) 3) 4, some (17, false)⟩,
  ⟨some 21, .pick (.t 17) (.k (.c (.lit (.bool true)))) (.t 20), none⟩])
 (.cond (.t 21) (.seq (.reg [⟨some 4, .mov (.k (.c (.lit (.bool false)))), none⟩])
 (.ret)) (.skip)))
 (.reg [⟨some 22, .mov (.t 7), none⟩,
  ⟨some 5, .mov (.t 22), none⟩]))))
 (.reg [⟨some 23, .gen (.binOp .add 3 (.tmp 10) (.const (.int .i64 1)) 3) 3, none⟩,
  ⟨some 10, .mov (.t 23), none⟩])))
def A173 : AFunc := ⟨2, 24, [(4, none)], .seq (.reg [⟨some 4, .mov (.k (.c (.lit (.bool false)))), none⟩])
 (.seq (.reg [⟨some 5, .mov (.k (.c (.lit (.int .i64 (-1))))), none⟩])
 (.seq (.seq (.reg [⟨some 8, .mov (.t 0), none⟩,
  ⟨some 9, .len (.t 8), none⟩,
  ⟨some 10, .mov (.k (.c (.lit (.int .i64 0)))), none⟩])
 (.block 0 (.loop A173_l0)))
 (.seq (.reg [⟨some 4, .mov (.k (.c (.lit (.bool true)))), none⟩])
 (.ret)))), true⟩
theorem C173 : compF Tryz.prog Tryz.f173 true = some A173 := by kernel_rfl

/- drayage/spec.within$1 -/
def A174 : AFunc := ⟨3, 12, [(3, none)], .seq (.reg [⟨some 3, .mov (.k (.c (.lit (.bool false)))), none⟩])
 (.seq (.reg [⟨some 4, .load none (.t 0), none⟩,
  ⟨some 5, .load none (.t 1), none⟩,
  ⟨some 6, .gen (.binOp .leq 3 (.tmp 4) (.tmp 5) 3) 4, none⟩,
  ⟨some 7, .mov (.t 6), none⟩,
  ⟨some 8, .load none (.t 1), some (7, true)⟩,
  ⟨some 9, .load none (.t 2), some (7, true)⟩,
  ⟨some 10, .gen (.binOp .leq 3 (.tmp 8) (.tmp 9) 3) 4, some (7, true)⟩,
  ⟨some 11, .pick (.t 7) (.t 10) (.k (.c (.lit (.bool false)))), none⟩,
  ⟨some 3, .mov (.t 11), none⟩])
 (.ret)), true⟩
theorem C174 : compF Tryz.prog Tryz.f174 true = some A174 := by kernel_rfl

/- slices.siftDownOrdered[int] -/
def A175_l0 : ACode := .block 1 (.seq (.reg [⟨some 11, .mov (.t 8), none⟩,
  ⟨some 12, .gen (.binOp .mul 3 (.const (.int .i64 2)) (.tmp 11) 3) 3, none⟩,
  ⟨some 13, .gen (.binOp .add 3 (.tmp 12) (.const (.int .i64 1)) 3) 3, none⟩,
  ⟨some 9, .mov (.t 13), none⟩])
 (.seq (.seq (.reg [⟨some 14, .mov (.t 9), none⟩,
  ⟨some 15, .mov (.t 2), none⟩,
  ⟨some 16, .gen (.binOp .geq 3 (.tmp 14) (.tmp 15) 3) 4, none⟩])
 (.cond (.t 16) (.exit 0) (.skip)))
 (.seq (.seq (.drw [⟨some 17, .mov (.t 9), none⟩,
  ⟨some 18, .gen (.binOp .add 3 (.tmp 17) (.const (.int .i64 1)) 3) 3, none⟩,
  ⟨some 19, .mov (.t 2), none⟩,
  ⟨some 20, .gen (.binOp .lss 3 (.tmp 18) (.tmp 19) 3) 4, none⟩,
  ⟨some 21, .mov (.t 20), none⟩,
  ⟨some 22, .mov (.t 0), some (21, true)⟩,
  ⟨some 23, .mov (.t 3), some (21, true)⟩,
  ⟨some 24, .mov (.t 9), some (21, true)⟩,
  ⟨some 25, .gen (.binOp .add 3 (.tmp 23) (.tmp 24) 3) 3, some (21, true)⟩,
  ⟨some 26, .idx 1 none (.t 22) (.t 25), some (21, true)⟩,
  ⟨some 27, .load none (.t 26), some (21, true)⟩,
  ⟨some 28, .mov (.t 0), some (21, true)⟩,
  ⟨some 29, .mov (.t 3), some (21, true)⟩,
  ⟨some 30, .mov (.t 9), some (21, true)⟩,
  ⟨some 31, .gen (.binOp .add 3 (.tmp 29) (.tmp 30) 3) 3, some (21, true)⟩,
  ⟨some 32, .gen (.binOp .add 3 (.tmp 31) (.const (.int .i64 1)) 3) 3, some (21, true)⟩,
  ⟨some 33, .idx 1 none (.t 28) (.t 32), some (21, true)⟩,
  ⟨some 34, .load none (.t 33), some (21, true)⟩,
  ⟨some 35, .call (.k (.c (.fn (.func 168) [] []))) [(.t 27), (.t 34)], some (21, true)⟩,
  ⟨some 36, .pick (.t 21) (.t 35) (.k (.c (.lit (.bool false)))), none⟩] [0, 1, 0, 7, 15, 31, 31, 31, 223, 511, 1023, 31, 31, 31, 12319, 28703, 63519, 129055, 262143, 524287] 20 1)
 (.cond (.t 36) (.reg [⟨some 37, .mov (.t 9), none⟩,
  ⟨some 38, .gen (.binOp .add 3 (.tmp 37) (.const (.int .i64 1)) 3) 3, none⟩,
  ⟨some 9, .mov (.t 38), none⟩]) (.skip)))
 (.seq (.seq (.drw [⟨some 39, .mov (.t 0), none⟩,
  ⟨some 40, .mov (.t 3), none⟩,
  ⟨some 41, .mov (.t 8), none⟩,
  ⟨some 42, .gen (.binOp .add 3 (.tmp 40) (.tmp 41) 3) 3, none⟩,
  ⟨some 43, .idx 1 none (.t 39) (.t 42), none⟩,
  ⟨some 44, .load none (.t 43), none⟩,
  ⟨some 45, .mov (.t 0), none⟩,
  ⟨some 46, .mov (.t 3), none⟩,
  ⟨some 47, .mov (.t 9), none⟩,
  ⟨some 48, .gen (.binOp .add 3 (.tmp 46) (.tmp 47) 3) 3, none⟩,
  ⟨some 49, .idx 1 none (.t 45) (.t 48), none⟩,
  ⟨some 50, .load none (.t 49), none⟩,
  ⟨some 51, .call (.k (.c (.fn (.func 168) [] []))) [(.t 44), (.t 50)], none⟩,
  ⟨some 52, .gen (.unOp .not 4 (.tmp 51)) 4, none⟩] [0, 0, 0, 6, 15, 31, 0, 0, 0, 384, 960, 1984, 4095, 8191] 14 3)
 (.cond (.t 52) (.ret) (.skip)))
 (.seq (.drw [⟨some 53, .mov (.t 0), none⟩,
  ⟨some 54, .mov (.t 3), none⟩,
  ⟨some 55, .mov (.t 8), none⟩,
  ⟨some 56, .gen (.binOp .add 3 (.tmp 54) (.tmp 55) 3) 3, none⟩,
  ⟨some 57, .mov (.t 0), none⟩,
  ⟨some 58, .mov (.t 3), none⟩,
  ⟨some 59, .mov (.t 9), none⟩,
  ⟨some 60, .gen (.binOp .add 3 (.tmp 58) (.tmp 59) 3) 3, none⟩,
  ⟨some 61, .mov (.t 0), none⟩,
  ⟨some 62, .mov (.t 3), none⟩,
  ⟨some 63, .mov (.t 9), none⟩,
  ⟨some 64, .gen (.binOp .add 3 (.tmp 62) (.tmp 63) 3) 3, none⟩,
  ⟨some 65, .idx 1 none (.t 61) (.t 64), none⟩,
  ⟨some 66, .load none (.t 65), none⟩,
  ⟨some 67, .mov (.t 0), none⟩,
  ⟨some 68, .mov (.t 3), none⟩,
  ⟨some 69, .mov (.t 8), none⟩,
  ⟨some 70, .gen (.binOp .add 3 (.tmp 68) (.tmp 69) 3) 3, none⟩,
  ⟨some 71, .idx 1 none (.t 67) (.t 70), none⟩,
  ⟨some 72, .load none (.t 71), none⟩,
  ⟨some 73, .idx 1 none (.t 53) (.t 56), none⟩,
  ⟨none, .store 1 (.t 73) (.t 66), none⟩,
  ⟨some 74, .idx 1 none (.t 57) (.t 60), none⟩,
  ⟨none, .store 1 (.t 74) (.t 72), none⟩] [0, 0, 0, 6, 0, 0, 0, 96, 0, 0, 0, 1536, 3840, 7936, 0, 0, 0, 98304, 245760, 507904, 1048335, 2096911, 4194303, 8388607] 24 3)
 (.reg [⟨some 75, .mov (.t 9), none⟩,
  ⟨some 8, .mov (.t 75), none⟩]))))))
def A175 : AFunc := ⟨4, 76, [], .seq (.reg [⟨some 10, .mov (.t 1), none⟩,
  ⟨some 8, .mov (.t 10), none⟩])
 (.block 0 (.loop A175_l0)), true⟩
theorem C175 : compF Tryz.prog Tryz.f175 true = some A175 := by kernel_rfl

/- slices.nextPowerOfTwo -/
def A176 : AFunc := ⟨1, 7, [(2, none)], .seq (.reg [⟨some 2, .mov (.k (.c (.lit (.int .u64 0)))), none⟩])
 (.seq (.reg [⟨some 3, .mov (.t 0), none⟩,
  ⟨some 4, .gen (.convert 3 207 (.tmp 3)) 207, none⟩,
  ⟨some 5, .call (.k (.c (.fn (.func 147) [] []))) [(.t 4)], none⟩,
  ⟨some 6, .gen (.binOp .shl 207 (.const (.int .u64 1)) (.tmp 5) 3) 207, none⟩,
  ⟨some 2, .mov (.t 6), none⟩])
 (.ret)), true⟩
theorem C176 : compF Tryz.prog Tryz.f176 true = some A176 := by kernel_rfl

/- (*slices.xorshift).Next -/
def A177 : AFunc := ⟨1, 33, [(2, none)], .seq (.reg [⟨some 2, .mov (.k (.c (.lit (.int .u64 0)))), none⟩])
 (.seq (.drw [⟨some 3, .mov (.t 0), none⟩,
  ⟨some 4, .nilck (.t 3), none⟩,
  ⟨some 5, .load none (.t 4), none⟩,
  ⟨some 6, .mov (.t 0), none⟩,
  ⟨some 7, .nilck (.t 6), none⟩,
  ⟨some 8, .load none (.t 7), none⟩,
  ⟨some 9, .gen (.binOp .shl 228 (.tmp 8) (.const (.int .u64 13)) 207) 228, none⟩,
  ⟨some 10, .gen (.binOp .xor 228 (.tmp 5) (.tmp 9) 228) 228, none⟩,
  ⟨some 11, .nilck (.t 3), none⟩,
  ⟨none, .store 1 (.t 11) (.t 10), none⟩] [0, 1, 3, 0, 8, 24, 56, 127, 255, 511] 10 1)
 (.seq (.drw [⟨some 12, .mov (.t 0), none⟩,
  ⟨some 13, .nilck (.t 12), none⟩,
  ⟨some 14, .load none (.t 13), none⟩,
  ⟨some 15, .mov (.t 0), none⟩,
  ⟨some 16, .nilck (.t 15), none⟩,
  ⟨some 17, .load none (.t 16), none⟩,
  ⟨some 18, .gen (.binOp .shr 228 (.tmp 17) (.const (.int .u64 7)) 207) 228, none⟩,
  ⟨some 19, .gen (.binOp .xor 228 (.tmp 14) (.tmp 18) 228) 228, none⟩,
  ⟨some 20, .nilck (.t 12), none⟩,
  ⟨none, .store 1 (.t 20) (.t 19), none⟩] [0, 1, 3, 0, 8, 24, 56, 127, 255, 511] 10 1)
 (.seq (.drw [⟨some 21, .mov (.t 0), none⟩,
  ⟨some 22, .nilck (.t 21), none⟩,
  ⟨some 23, .load none (.t 22), none⟩,
  ⟨some 24, .mov (.t 0), none⟩,
  ⟨some 25, .nilck (.t 24), none⟩,
  ⟨some 26, .load none (.t 25), none⟩,
  ⟨some 27, .gen (.binOp .shl 228 (.tmp 26) (.const (.int .u64 17)) 207) 228, none⟩,
  ⟨some 28, .gen (.binOp .xor 228 (.tmp 23) (.tmp 27) 228) 228, none⟩,
  ⟨some 29, .nilck (.t 21), none⟩,
  ⟨none, .store 1 (.t 29) (.t 28), none⟩] [0, 1, 3, 0, 8, 24, 56, 127, 255, 511] 10 1)
 (.seq (.reg [⟨some 30, .mov (.t 0), none⟩,
  ⟨some 31, .nilck (.t 30), none⟩,
  ⟨some 32, .load none (.t 31), none⟩,
  ⟨some 2, .mov (.t 32), none⟩])
 (.ret))))), true⟩
theorem C177 : compF Tryz.prog Tryz.f177 true = some A177 := by kernel_rfl

/- slices.medianAdjacentOrdered[int] -/
def A178 : AFunc := ⟨3, 15, [(6, none)], .seq (.reg [⟨some 6, .mov (.k (.c (.lit (.int .i64 0)))), none⟩])
 (.seq (.reg [⟨some 7, .mov (.t 0), none⟩,
  ⟨some 8, .mov (.t 1), none⟩,
  ⟨some 9, .gen (.binOp .sub 3 (.tmp 8) (.const (.int .i64 1)) 3) 3, none⟩,
  ⟨some 10, .mov (.t 1), none⟩,
  ⟨some 11, .mov (.t 1), none⟩,
  ⟨some 12, .gen (.binOp .add 3 (.tmp 11) (.const (.int .i64 1)) 3) 3, none⟩,
  ⟨some 13, .mov (.t 2), none⟩,
  ⟨some 14, .call (.k (.c (.fn (.func 179) [] []))) [(.t 7), (.t 9), (.t 10), (.t 12), (.t 13)], none⟩,
  ⟨some 6, .mov (.t 14), none⟩])
 (.ret)), true⟩
theorem C178 : compF Tryz.prog Tryz.f178 true = some A178 := by kernel_rfl

/- slices.medianOrdered[int] -/
def A179 : AFunc := ⟨5, 36, [(10, none)], .seq (.reg [⟨some 10, .mov (.k (.c (.lit (.int .i64 0)))), none⟩])
 (.seq (.reg [⟨some 12, .mov (.t 0), none⟩,
  ⟨some 13, .mov (.t 1), none⟩,
  ⟨some 14, .mov (.t 2), none⟩,
  ⟨some 15, .mov (.t 4), none⟩,
  ⟨some 16, .call (.k (.c (.fn (.func 181) [] []))) [(.t 12), (.t 13), (.t 14), (.t 15)], none⟩,
  ⟨some 11, .mov (.t 16), none⟩,
  ⟨some 17, .extract (.t 11) 0, none⟩,
  ⟨some 18, .extract (.t 11) 1, none⟩,
  ⟨some 1, .mov (.t 17), none⟩,
  ⟨some 2, .mov (.t 18), none⟩])
 (.seq (.reg [⟨some 20, .mov (.t 0), none⟩,
  ⟨some 21, .mov (.t 2), none⟩,
  ⟨some 22, .mov (.t 3), none⟩,
  ⟨some 23, .mov (.t 4), none⟩,
  ⟨some 24, .call (.k (.c (.fn (.func 181) [] []))) [(.t 20), (.t 21), (.t 22), (.t 23)], none⟩,
  ⟨some 19, .mov (.t 24), none⟩,
  ⟨some 25, .extract (.t 19) 0, none⟩,
  ⟨some 26, .extract (.t 19) 1, none⟩,
  ⟨some 2, .mov (.t 25), none⟩,
  ⟨some 3, .mov (.t 26), none⟩])
 (.seq (.reg [⟨some 28, .mov (.t 0), none⟩,
  ⟨some 29, .mov (.t 1), none⟩,
  ⟨some 30, .mov (.t 2), none⟩,
  ⟨some 31, .mov (.t 4), none⟩,
  ⟨some 32, .call (.k (.c (.fn (.func 181) [] []))) [(.t 28), (.t 29), (.t 30), (.t 31)], none⟩,
  ⟨some 27, .mov (.t 32), none⟩,
  ⟨some 33, .extract (.t 27) 0, none⟩,
  ⟨some 34, .extract (.t 27) 1, none⟩,
  ⟨some 1, .mov (.t 33), none⟩,
  ⟨some 2, .mov (.t 34), none⟩])
 (.seq (.reg [⟨some 35, .mov (.t 2), none⟩,
  ⟨some 10, .mov (.t 35), none⟩])
 (.ret))))), true⟩
theorem C179 : compF Tryz.prog Tryz.f179 true = some A179 := by kernel_rfl

/- cmp.isNaN[int] -/
def A180 : AFunc := ⟨1, 6, [(2, none)], .seq (.reg [⟨some 2, .mov (.k (.c (.lit (.bool false)))), none⟩])
 (.seq (.reg [⟨some 3, .mov (.t 0), none⟩,
  ⟨some 4, .mov (.t 0), none⟩,
  ⟨some 5, .gen (.binOp .neq 3 (.tmp 3) (.tmp 4) 3) 4, none⟩,
  ⟨some 2, .mov (.t 5), none⟩])
 (.ret)), true⟩
theorem C180 : compF Tryz.prog Tryz.f180 true = some A180 := by kernel_rfl

/- slices.order2Ordered[int] -/
def A181 : AFunc := ⟨4, 28, [(8, none), (9, none)], .seq (.reg [⟨some 8, .mov (.k (.c (.lit (.int .i64 0)))), none⟩,
  ⟨some 9, .mov (.k (.c (.lit (.int .i64 0)))), none⟩])
 (.seq (.seq (.drw [⟨some 10, .mov (.t 0), none⟩,
  ⟨some 11, .mov (.t 2), none⟩,
  ⟨some 12, .idx 1 none (.t 10) (.t 11), none⟩,
  ⟨some 13, .load none (.t 12), none⟩,
  ⟨some 14, .mov (.t 0), none⟩,
  ⟨some 15, .mov (.t 1), none⟩,
  ⟨some 16, .idx 1 none (.t 14) (.t 15), none⟩,
  ⟨some 17, .load none (.t 16), none⟩,
  ⟨some 18, .call (.k (.c (.fn (.func 168) [] []))) [(.t 13), (.t 17)], none⟩] [0, 0, 3, 7, 0, 0, 48, 112, 255] 9 2)
 (.cond (.t 18) (.seq (.reg [⟨some 19, .mov (.t 3), none⟩,
  ⟨some 20, .nilck (.t 19), none⟩,
  ⟨some 21, .load none (.t 20), none⟩,
  ⟨some 22, .gen (.binOp .add 3 (.tmp 21) (.const (.int .i64 1)) 3) 3, none⟩,
  ⟨some 23, .nilck (.t 19), none⟩,
  ⟨none, .store 1 (.t 23) (.t 22), none⟩])
 (.seq (.reg [⟨some 24, .mov (.t 2), none⟩,
  ⟨some 25, .mov (.t 1), none⟩,
  ⟨some 8, .mov (.t 24), none⟩,
  ⟨some 9, .mov (.t 25), none⟩])
 (.ret))) (.skip)))
 (.seq (.reg [⟨some 26, .mov (.t 1), none⟩,
  ⟨some 27, .mov (.t 2), none⟩,
  ⟨some 8, .mov (.t 26), none⟩,
  ⟨some 9, .mov (.t 27), none⟩])
 (.ret))), true⟩
theorem C181 : compF Tryz.prog Tryz.f181 true = some A181 := by kernel_rfl

def tb : List (Nat × AFunc) := [(3, A3), (5, A5), (6, A6), (7, A7), (8, A8), (12, A12), (22, A22), (24, A24), (25, A25), (26, A26), (27, A27), (28, A28), (29, A29), (30, A30), (36, A36), (37, A37), (38, A38), (39, A39), (44, A44), (47, A47), (49, A49), (53, A53), (57, A57), (62, A62), (63, A63), (64, A64), (65, A65), (66, A66), (67, A67), (68, A68), (69, A69), (70, A70), (71, A71), (72, A72), (73, A73), (74, A74), (75, A75), (76, A76), (87, A87), (88, A88), (89, A89), (90, A90), (91, A91), (92, A92), (93, A93), (100, A100), (102, A102), (103, A103), (105, A105), (109, A109), (110, A110), (111, A111), (112, A112), (113, A113), (114, A114), (115, A115), (116, A116), (117, A117), (118, A118), (123, A123), (124, A124), (125, A125), (126, A126), (128, A128), (129, A129), (130, A130), (131, A131), (132, A132), (134, A134), (135, A135), (136, A136), (137, A137), (138, A138), (139, A139), (140, A140), (143, A143), (144, A144), (145, A145), (146, A146), (147, A147), (148, A148), (149, A149), (150, A150), (151, A151), (152, A152), (153, A153), (154, A154), (155, A155), (156, A156), (157, A157), (158, A158), (159, A159), (160, A160), (161, A161), (162, A162), (163, A163), (164, A164), (165, A165), (166, A166), (167, A167), (168, A168), (169, A169), (170, A170), (171, A171), (172, A172), (173, A173), (174, A174), (175, A175), (176, A176), (177, A177), (178, A178), (179, A179), (180, A180), (181, A181)]
theorem tb_ok : TbOk Tryz.prog tb := ⟨⟨by kernel_rfl, _, Tryz.func3, C3⟩, ⟨by kernel_rfl, _, Tryz.func5, C5⟩, ⟨by kernel_rfl, _, Tryz.func6, C6⟩, ⟨by kernel_rfl, _, Tryz.func7, C7⟩, ⟨by kernel_rfl, _, Tryz.func8, C8⟩, ⟨by kernel_rfl, _, Tryz.func12, C12⟩, ⟨by kernel_rfl, _, Tryz.func22, C22⟩, ⟨by kernel_rfl, _, Tryz.func24, C24⟩, ⟨by kernel_rfl, _, Tryz.func25, C25⟩, ⟨by kernel_rfl, _, Tryz.func26, C26⟩, ⟨by kernel_rfl, _, Tryz.func27, C27⟩, ⟨by kernel_rfl, _, Tryz.func28, C28⟩, ⟨by kernel_rfl, _, Tryz.func29, C29⟩, ⟨by kernel_rfl, _, Tryz.func30, C30⟩, ⟨by kernel_rfl, _, Tryz.func36, C36⟩, ⟨by kernel_rfl, _, Tryz.func37, C37⟩, ⟨by kernel_rfl, _, Tryz.func38, C38⟩, ⟨by kernel_rfl, _, Tryz.func39, C39⟩, ⟨by kernel_rfl, _, Tryz.func44, C44⟩, ⟨by kernel_rfl, _, Tryz.func47, C47⟩, ⟨by kernel_rfl, _, Tryz.func49, C49⟩, ⟨by kernel_rfl, _, Tryz.func53, C53⟩, ⟨by kernel_rfl, _, Tryz.func57, C57⟩, ⟨by kernel_rfl, _, Tryz.func62, C62⟩, ⟨by kernel_rfl, _, Tryz.func63, C63⟩, ⟨by kernel_rfl, _, Tryz.func64, C64⟩, ⟨by kernel_rfl, _, Tryz.func65, C65⟩, ⟨by kernel_rfl, _, Tryz.func66, C66⟩, ⟨by kernel_rfl, _, Tryz.func67, C67⟩, ⟨by kernel_rfl, _, Tryz.func68, C68⟩, ⟨by kernel_rfl, _, Tryz.func69, C69⟩, ⟨by kernel_rfl, _, Tryz.func70, C70⟩, ⟨by kernel_rfl, _, Tryz.func71, C71⟩, ⟨by kernel_rfl, _, Tryz.func72, C72⟩, ⟨by kernel_rfl, _, Tryz.func73, C73⟩, ⟨by kernel_rfl, _, Tryz.func74, C74⟩, ⟨by kernel_rfl, _, Tryz.func75, C75⟩, ⟨by kernel_rfl, _, Tryz.func76, C76⟩, ⟨by kernel_rfl, _, Tryz.func87, C87⟩, ⟨by kernel_rfl, _, Tryz.func88, C88⟩, ⟨by kernel_rfl, _, Tryz.func89, C89⟩, ⟨by kernel_rfl, _, Tryz.func90, C90⟩, ⟨by kernel_rfl, _, Tryz.func91, C91⟩, ⟨by kernel_rfl, _, Tryz.func92, C92⟩, ⟨by kernel_rfl, _, Tryz.func93, C93⟩, ⟨by kernel_rfl, _, Tryz.func100, C100⟩, ⟨by kernel_rfl, _, Tryz.func102, C102⟩, ⟨by kernel_rfl, _, Tryz.func103, C103⟩, ⟨by kernel_rfl, _, Tryz.func105, C105⟩, ⟨by kernel_rfl, _, Tryz.func109, C109⟩, ⟨by kernel_rfl, _, Tryz.func110, C110⟩, ⟨by kernel_rfl, _, Tryz.func111, C111⟩, ⟨by kernel_rfl, _, Tryz.func112, C112⟩, ⟨by kernel_rfl, _, Tryz.func113, C113⟩, ⟨by kernel_rfl, _, Tryz.func114, C114⟩, ⟨by kernel_rfl, _, Tryz.func115, C115⟩, ⟨by kernel_rfl, _, Tryz.func116, C116⟩, ⟨by kernel_rfl, _, Tryz.func117, C117⟩, ⟨by kernel_rfl, _, Tryz.func118, C118⟩, ⟨by kernel_rfl, _, Tryz.func123, C123⟩, ⟨by kernel_rfl, _, Tryz.func124, C124⟩, ⟨by kernel_rfl, _, Tryz.func125, C125⟩, ⟨by kernel_rfl, _, Tryz.func126, C126⟩, ⟨by kernel_rfl, _, Tryz.func128, C128⟩, ⟨by kernel_rfl, _, Tryz.func129, C129⟩, ⟨by kernel_rfl, _, Tryz.func130, C130⟩, ⟨by kernel_rfl, _, Tryz.func131, C131⟩, ⟨by kernel_rfl, _, Tryz.func132, C132⟩, ⟨by kernel_rfl, _, Tryz.func134, C134⟩, ⟨by kernel_rfl, _, Tryz.func135, C135⟩, ⟨by kernel_rfl, _, Tryz.func136, C136⟩, ⟨by kernel_rfl, _, Tryz.func137, C137⟩, ⟨by kernel_rfl, _, Tryz.func138, C138⟩, ⟨by kernel_rfl, _, Tryz.func139, C139⟩, ⟨by kernel_rfl, _, Tryz.func140, C140⟩, ⟨by kernel_rfl, _, Tryz.func143, C143⟩, ⟨by kernel_rfl, _, Tryz.func144, C144⟩, ⟨by kernel_rfl, _, Tryz.func145, C145⟩, ⟨by kernel_rfl, _, Tryz.func146, C146⟩, ⟨by kernel_rfl, _, Tryz.func147, C147⟩, ⟨by kernel_rfl, _, Tryz.func148, C148⟩, ⟨by kernel_rfl, _, Tryz.func149, C149⟩, ⟨by kernel_rfl, _, Tryz.func150, C150⟩, ⟨by kernel_rfl, _, Tryz.func151, C151⟩, ⟨by kernel_rfl, _, Tryz.func152, C152⟩, ⟨by kernel_rfl, _, Tryz.func153, C153⟩, ⟨by kernel_rfl, _, Tryz.func154, C154⟩, ⟨by kernel_rfl, _, Tryz.func155, C155⟩, ⟨by kernel_rfl, _, Tryz.func156, C156⟩, ⟨by kernel_rfl, _, Tryz.func157, C157⟩, ⟨by kernel_rfl, _, Tryz.func158, C158⟩, ⟨by kernel_rfl, _, Tryz.func159, C159⟩, ⟨by kernel_rfl, _, Tryz.func160, C160⟩, ⟨by kernel_rfl, _, Tryz.func161, C161⟩, ⟨by kernel_rfl, _, Tryz.func162, C162⟩, ⟨by kernel_rfl, _, Tryz.func163, C163⟩, ⟨by kernel_rfl, _, Tryz.func164, C164⟩, ⟨by kernel_rfl, _, Tryz.func165, C165⟩, ⟨by kernel_rfl, _, Tryz.func166, C166⟩, ⟨by kernel_rfl, _, Tryz.func167, C167⟩, ⟨by kernel_rfl, _, Tryz.func168, C168⟩, ⟨by kernel_rfl, _, Tryz.func169, C169⟩, ⟨by kernel_rfl, _, Tryz.func170, C170⟩, ⟨by kernel_rfl, _, Tryz.func171, C171⟩, ⟨by kernel_rfl, _, Tryz.func172, C172⟩, ⟨by kernel_rfl, _, Tryz.func173, C173⟩, ⟨by kernel_rfl, _, Tryz.func174, C174⟩, ⟨by kernel_rfl, _, Tryz.func175, C175⟩, ⟨by kernel_rfl, _, Tryz.func176, C176⟩, ⟨by kernel_rfl, _, Tryz.func177, C177⟩, ⟨by kernel_rfl, _, Tryz.func178, C178⟩, ⟨by kernel_rfl, _, Tryz.func179, C179⟩, ⟨by kernel_rfl, _, Tryz.func180, C180⟩, ⟨by kernel_rfl, _, Tryz.func181, C181⟩, trivial⟩
end Go.Abs

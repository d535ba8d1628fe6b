/- The functions as data, and that they are the program's. -/
import Derived.Test.YtkcdeefnkbbacaaAwN
set_option maxRecDepth 100000
namespace Go.Proofs.Ytkcdeefnkbbacaa
open Go.RowKit
-- f3 fingerpost/fingerpostlaw06.HelloSays  boxes 3 notes []
def a3 : AC := .seq (.reg [⟨some 2, .box 0 5 (.t 0), none⟩,
      ⟨some 4, .cp (.c (.bool false)), none⟩]) (
  .seq (.seq (.reg [⟨some 13, .cp (.t 1), none⟩,
      ⟨some 14, .lenS (.t 13), none⟩,
      ⟨some 15, .bin .gtr (.t 14) (.c (.int .i64 300)), none⟩]) (
  .cond (.t 15) (
    .seq (.reg [⟨some 16, .call 15 [], none⟩,
        ⟨some 4, .cp (.t 16), none⟩]) (
    .ret)) (
    .skip))) (
  .seq (.reg [⟨some 18, .ld (some 5) (.t 2), none⟩,
      ⟨some 19, .call 16 [.t 18], none⟩,
      ⟨some 17, .tk 19, none⟩,
      ⟨some 20, .ext (.t 17) 0, none⟩,
      ⟨some 21, .ext (.t 17) 1, none⟩,
      ⟨some 5, .cp (.t 20), none⟩,
      ⟨some 6, .cp (.t 21), none⟩]) (
  .seq (.reg [⟨some 23, .ld (some 5) (.t 2), none⟩,
      ⟨some 24, .call 17 [.t 23], none⟩,
      ⟨some 22, .tk 24, none⟩,
      ⟨some 25, .ext (.t 22) 0, none⟩,
      ⟨some 26, .ext (.t 22) 1, none⟩,
      ⟨some 7, .cp (.t 25), none⟩,
      ⟨some 8, .cp (.t 26), none⟩]) (
  .seq (.reg [⟨some 28, .cp (.t 1), none⟩,
      ⟨some 29, .call 18 [.t 28], none⟩,
      ⟨some 27, .tk 29, none⟩,
      ⟨some 30, .ext (.t 27) 0, none⟩,
      ⟨some 31, .ext (.t 27) 1, none⟩,
      ⟨some 9, .alloc 1 5 [.int .i64 0, .int .u32 0, .int .u32 0, .int .u32 0, .int .u32 0], none⟩,
      ⟨none, .st 5 (.t 9) (.t 30), none⟩,
      ⟨some 10, .cp (.t 31), none⟩]) (
  .seq (.reg [⟨some 33, .cp (.t 1), none⟩,
      ⟨some 34, .call 19 [.t 33], none⟩,
      ⟨some 32, .tk 34, none⟩,
      ⟨some 35, .ext (.t 32) 0, none⟩,
      ⟨some 36, .ext (.t 32) 1, none⟩,
      ⟨some 11, .alloc 2 5 [.int .i64 0, .int .u32 0, .int .u32 0, .int .u32 0, .int .u32 0], none⟩,
      ⟨none, .st 5 (.t 11) (.t 35), none⟩,
      ⟨some 12, .cp (.t 36), none⟩]) (
  .seq (.drw [⟨some 37, .ld (some 5) (.t 2), none⟩,
      ⟨some 38, .call 20 [.t 37], none⟩,
      ⟨some 39, .ld (some 5) (.t 2), none⟩,
      ⟨some 40, .call 21 [.t 39], none⟩,
      ⟨some 41, .eqB false (.t 38) (.t 40), none⟩,
      ⟨some 42, .cp (.t 41), none⟩,
      ⟨some 43, .cp (.t 5), some (42, true)⟩,
      ⟨some 44, .cp (.t 7), some (42, true)⟩,
      ⟨some 45, .bin .eql (.t 43) (.t 44), some (42, true)⟩,
      ⟨some 46, .pick (.t 42) (.t 45) (.c (.bool false)), none⟩,
      ⟨some 47, .cp (.t 46), none⟩,
      ⟨some 48, .cp (.t 6), some (47, true)⟩,
      ⟨some 49, .cp (.t 8), some (47, true)⟩,
      ⟨some 50, .bin .eql (.t 48) (.t 49), some (47, true)⟩,
      ⟨some 51, .pick (.t 47) (.t 50) (.c (.bool false)), none⟩,
      ⟨some 52, .cp (.t 51), none⟩,
      ⟨some 53, .ld (some 5) (.t 9), some (52, true)⟩,
      ⟨some 54, .ld (some 5) (.t 11), some (52, true)⟩,
      ⟨some 55, .eqA false [.i, .i, .i, .i, .i] (.t 53) (.t 54), some (52, true)⟩,
      ⟨some 56, .pick (.t 52) (.t 55) (.c (.bool false)), none⟩,
      ⟨some 57, .cp (.t 56), none⟩,
      ⟨some 58, .cp (.t 10), some (57, true)⟩,
      ⟨some 59, .cp (.t 12), some (57, true)⟩,
      ⟨some 60, .bin .eql (.t 58) (.t 59), some (57, true)⟩,
      ⟨some 61, .pick (.t 57) (.t 60) (.c (.bool false)), none⟩,
      ⟨some 62, .cp (.t 61), none⟩,
      ⟨some 63, .call 15 [], some (62, true)⟩,
      ⟨some 64, .pick (.t 62) (.t 63) (.c (.bool false)), none⟩,
      ⟨some 4, .cp (.t 64), none⟩] []) (
  .ret)))))))
def af3 : AFn := ⟨65, 3, [.t 4], a3⟩
theorem ak3 : chkF Try.prog 3 af3 = true := by kernel_rfl

-- f15 fingerpost/fingerpostlaw06.awake  boxes 2 notes []
def a15 : AC := .seq (.reg [⟨some 0, .cp (.c (.bool false)), none⟩]) (
  .seq (.reg [⟨some 10, .call 78 [], none⟩,
      ⟨some 11, .call 16 [.t 10], none⟩,
      ⟨some 9, .tk 11, none⟩,
      ⟨some 12, .ext (.t 9) 0, none⟩,
      ⟨some 13, .ext (.t 9) 1, none⟩,
      ⟨some 1, .cp (.t 12), none⟩,
      ⟨some 2, .cp (.t 13), none⟩]) (
  .seq (.reg [⟨some 15, .cp (.t 1), none⟩,
      ⟨some 16, .call 18 [.t 15], none⟩,
      ⟨some 14, .tk 16, none⟩,
      ⟨some 17, .ext (.t 14) 0, none⟩,
      ⟨some 18, .ext (.t 14) 1, none⟩,
      ⟨some 3, .alloc 0 5 [.int .i64 0, .int .u32 0, .int .u32 0, .int .u32 0, .int .u32 0], none⟩,
      ⟨none, .st 5 (.t 3) (.t 17), none⟩,
      ⟨some 4, .cp (.t 18), none⟩]) (
  .seq (.reg [⟨some 20, .cp (.t 1), none⟩,
      ⟨some 21, .bin .add (.t 20) (.c (.str [120])), none⟩,
      ⟨some 22, .call 18 [.t 21], none⟩,
      ⟨some 19, .tk 22, none⟩,
      ⟨some 23, .ext (.t 19) 0, none⟩,
      ⟨some 24, .ext (.t 19) 1, none⟩,
      ⟨some 5, .alloc 1 5 [.int .i64 0, .int .u32 0, .int .u32 0, .int .u32 0, .int .u32 0], none⟩,
      ⟨none, .st 5 (.t 5) (.t 23), none⟩,
      ⟨some 6, .cp (.t 24), none⟩]) (
  .seq (.reg [⟨some 26, .call 78 [], none⟩,
      ⟨some 27, .fld 1 (some 4) (.t 26), none⟩,
      ⟨some 28, .bld [.int .i64 0, .int .u32 0, .int .u32 0, .int .u32 0, .int .u32 0] [(0, 1, .c (.int .i64 16)), (1, 4, .t 27)], none⟩,
      ⟨some 29, .call 16 [.t 28], none⟩,
      ⟨some 25, .tk 29, none⟩,
      ⟨some 30, .ext (.t 25) 0, none⟩,
      ⟨some 31, .ext (.t 25) 1, none⟩,
      ⟨some 7, .cp (.t 30), none⟩,
      ⟨some 8, .cp (.t 31), none⟩]) (
  .seq (.drw [⟨some 32, .cp (.t 2), none⟩,
      ⟨some 33, .bin .eql (.t 32) (.c (.int .i64 0)), none⟩,
      ⟨some 34, .cp (.t 33), none⟩,
      ⟨some 35, .cp (.t 1), some (34, true)⟩,
      ⟨some 36, .lenS (.t 35), some (34, true)⟩,
      ⟨some 37, .bin .eql (.t 36) (.c (.int .i64 17)), some (34, true)⟩,
      ⟨some 38, .pick (.t 34) (.t 37) (.c (.bool false)), none⟩,
      ⟨some 39, .cp (.t 38), none⟩,
      ⟨some 40, .cp (.t 4), some (39, true)⟩,
      ⟨some 41, .bin .eql (.t 40) (.c (.int .i64 0)), some (39, true)⟩,
      ⟨some 42, .pick (.t 39) (.t 41) (.c (.bool false)), none⟩,
      ⟨some 43, .cp (.t 42), none⟩,
      ⟨some 44, .ld (some 5) (.t 3), some (43, true)⟩,
      ⟨some 45, .call 78 [], some (43, true)⟩,
      ⟨some 46, .eqA false [.i, .i, .i, .i, .i] (.t 44) (.t 45), some (43, true)⟩,
      ⟨some 47, .pick (.t 43) (.t 46) (.c (.bool false)), none⟩,
      ⟨some 48, .cp (.t 47), none⟩,
      ⟨some 49, .cp (.t 6), some (48, true)⟩,
      ⟨some 50, .bin .eql (.t 49) (.c (.int .i64 3)), some (48, true)⟩,
      ⟨some 51, .pick (.t 48) (.t 50) (.c (.bool false)), none⟩,
      ⟨some 52, .cp (.t 51), none⟩,
      ⟨some 53, .cp (.t 8), some (52, true)⟩,
      ⟨some 54, .bin .eql (.t 53) (.c (.int .i64 1)), some (52, true)⟩,
      ⟨some 55, .pick (.t 52) (.t 54) (.c (.bool false)), none⟩,
      ⟨some 56, .cp (.t 55), none⟩,
      ⟨some 57, .ld (some 5) (.t 3), some (56, true)⟩,
      ⟨some 58, .call 20 [.t 57], some (56, true)⟩,
      ⟨some 59, .pick (.t 56) (.t 58) (.c (.bool false)), none⟩,
      ⟨some 60, .cp (.t 59), none⟩,
      ⟨some 61, .bld [.int .i64 0, .int .u32 0, .int .u32 0, .int .u32 0, .int .u32 0] [], some (60, true)⟩,
      ⟨some 62, .call 20 [.t 61], some (60, true)⟩,
      ⟨some 63, .un .not (.t 62), some (60, true)⟩,
      ⟨some 64, .pick (.t 60) (.t 63) (.c (.bool false)), none⟩,
      ⟨some 0, .cp (.t 64), none⟩] []) (
  .ret))))))
def af15 : AFn := ⟨65, 2, [.t 0], a15⟩
theorem ak15 : chkF Try.prog 15 af15 = true := by kernel_rfl

-- f17 fingerpost/fingerpostref06.Bytes  boxes 1 notes []
def a17 : AC := .seq (.reg [⟨some 1, .box 0 5 (.t 0), none⟩,
      ⟨some 2, .cp (.c (.str [])), none⟩,
      ⟨some 3, .cp (.c (.int .i64 0)), none⟩]) (
  .seq (.seq (.reg [⟨some 4, .ld (some 5) (.t 1), none⟩,
      ⟨some 5, .call 21 [.t 4], none⟩,
      ⟨some 6, .un .not (.t 5), none⟩]) (
  .cond (.t 6) (
    .seq (.reg [⟨some 2, .cp (.c (.str [])), none⟩,
        ⟨some 3, .cp (.c (.int .i64 1)), none⟩]) (
    .ret)) (
    .skip))) (
  .seq (.drw [⟨some 7, .fa 0 (.t 1), none⟩,
      ⟨some 8, .ld none (.t 7), none⟩,
      ⟨some 9, .cv (.int .u64) (.t 8), none⟩,
      ⟨some 10, .call 80 [.t 9, .c (.int .i64 1)], none⟩,
      ⟨some 11, .fa 1 (.t 1), none⟩,
      ⟨some 12, .ld (some 4) (.t 11), none⟩,
      ⟨some 13, .call 81 [.t 12], none⟩,
      ⟨some 14, .bin .add (.t 10) (.t 13), none⟩,
      ⟨some 2, .cp (.t 14), none⟩,
      ⟨some 3, .cp (.c (.int .i64 0)), none⟩] []) (
  .ret)))
def af17 : AFn := ⟨15, 1, [.t 2, .t 3], a17⟩
theorem ak17 : chkF Try.prog 17 af17 = true := by kernel_rfl

-- f18 fingerpost/hello.Read  boxes 3 notes []
def a18 : AC := .seq (.reg [⟨some 2, .alloc 0 5 [.int .i64 0, .int .u32 0, .int .u32 0, .int .u32 0, .int .u32 0], none⟩,
      ⟨some 3, .cp (.c (.int .i64 0)), none⟩]) (
  .seq (.seq (.reg [⟨some 9, .cp (.t 0), none⟩,
      ⟨some 10, .lenS (.t 9), none⟩,
      ⟨some 11, .bin .lss (.t 10) (.c (.int .i64 17)), none⟩]) (
  .cond (.t 11) (
    .seq (.reg [⟨some 12, .bld [.int .i64 0, .int .u32 0, .int .u32 0, .int .u32 0, .int .u32 0] [], none⟩,
        ⟨none, .st 5 (.t 2) (.t 12), none⟩,
        ⟨some 3, .cp (.c (.int .i64 2)), none⟩]) (
    .ret)) (
    .skip))) (
  .seq (.reg [⟨some 14, .cp (.t 0), none⟩,
      ⟨some 15, .call 82 [.t 14, .c (.int .i64 1)], none⟩,
      ⟨some 13, .tk 15, none⟩,
      ⟨some 16, .ext (.t 13) 0, none⟩,
      ⟨some 17, .ext (.t 13) 1, none⟩,
      ⟨some 18, .ext (.t 13) 2, none⟩,
      ⟨some 4, .cp (.t 16), none⟩,
      ⟨some 5, .cp (.t 17), none⟩,
      ⟨some 6, .cp (.t 18), none⟩]) (
  .seq (.seq (.reg [⟨some 19, .cp (.t 6), none⟩,
      ⟨some 20, .bin .neq (.t 19) (.c (.int .i64 0)), none⟩]) (
  .cond (.t 20) (
    .seq (.reg [⟨some 21, .bld [.int .i64 0, .int .u32 0, .int .u32 0, .int .u32 0, .int .u32 0] [], none⟩,
        ⟨some 22, .cp (.t 6), none⟩,
        ⟨none, .st 5 (.t 2) (.t 21), none⟩,
        ⟨some 3, .cp (.t 22), none⟩]) (
    .ret)) (
    .skip))) (
  .seq (.reg [⟨some 24, .cp (.t 5), none⟩,
      ⟨some 25, .call 83 [.t 24], none⟩,
      ⟨some 23, .tk 25, none⟩,
      ⟨some 26, .ext (.t 23) 0, none⟩,
      ⟨some 27, .ext (.t 23) 1, none⟩,
      ⟨some 28, .ext (.t 23) 2, none⟩,
      ⟨some 7, .alloc 1 4 [.int .u32 0, .int .u32 0, .int .u32 0, .int .u32 0], none⟩,
      ⟨none, .st 4 (.t 7) (.t 26), none⟩,
      ⟨some 5, .cp (.t 27), none⟩,
      ⟨some 6, .cp (.t 28), none⟩]) (
  .seq (.seq (.reg [⟨some 29, .cp (.t 6), none⟩,
      ⟨some 30, .bin .neq (.t 29) (.c (.int .i64 0)), none⟩]) (
  .cond (.t 30) (
    .seq (.reg [⟨some 31, .bld [.int .i64 0, .int .u32 0, .int .u32 0, .int .u32 0, .int .u32 0] [], none⟩,
        ⟨some 32, .cp (.t 6), none⟩,
        ⟨none, .st 5 (.t 2) (.t 31), none⟩,
        ⟨some 3, .cp (.t 32), none⟩]) (
    .ret)) (
    .skip))) (
  .seq (.reg [⟨some 33, .cp (.t 4), none⟩,
      ⟨some 34, .cv (.int .i64) (.t 33), none⟩,
      ⟨some 35, .ld (some 4) (.t 7), none⟩,
      ⟨some 36, .bld [.int .i64 0, .int .u32 0, .int .u32 0, .int .u32 0, .int .u32 0] [(0, 1, .t 34), (1, 4, .t 35)], none⟩,
      ⟨some 8, .alloc 2 5 [.int .i64 0, .int .u32 0, .int .u32 0, .int .u32 0, .int .u32 0], none⟩,
      ⟨none, .st 5 (.t 8) (.t 36), none⟩]) (
  .seq (.seq (.reg [⟨some 37, .ld (some 5) (.t 8), none⟩,
      ⟨some 38, .call 20 [.t 37], none⟩,
      ⟨some 39, .un .not (.t 38), none⟩,
      ⟨some 40, .cp (.t 39), none⟩,
      ⟨some 41, .cp (.t 5), some (40, false)⟩,
      ⟨some 42, .call 84 [.t 41], some (40, false)⟩,
      ⟨some 43, .bin .neq (.t 42) (.c (.int .i64 0)), some (40, false)⟩,
      ⟨some 44, .pick (.t 40) (.c (.bool true)) (.t 43), none⟩]) (
  .cond (.t 44) (
    .seq (.reg [⟨some 45, .bld [.int .i64 0, .int .u32 0, .int .u32 0, .int .u32 0, .int .u32 0] [], none⟩,
        ⟨none, .st 5 (.t 2) (.t 45), none⟩,
        ⟨some 3, .cp (.c (.int .i64 3)), none⟩]) (
    .ret)) (
    .skip))) (
  .seq (.reg [⟨some 46, .ld (some 5) (.t 8), none⟩,
      ⟨none, .st 5 (.t 2) (.t 46), none⟩,
      ⟨some 3, .cp (.c (.int .i64 0)), none⟩]) (
  .ret)))))))))
def af18 : AFn := ⟨47, 3, [.c 2 (some 5), .t 3], a18⟩
theorem ak18 : chkF Try.prog 18 af18 = true := by kernel_rfl

-- f19 fingerpost/fingerpostref06.Read  boxes 3 notes []
def a19 : AC := .seq (.reg [⟨some 2, .alloc 0 5 [.int .i64 0, .int .u32 0, .int .u32 0, .int .u32 0, .int .u32 0], none⟩,
      ⟨some 3, .cp (.c (.int .i64 0)), none⟩]) (
  .seq (.reg [⟨some 9, .cp (.t 0), none⟩,
      ⟨some 10, .call 85 [.t 9, .c (.int .i64 1)], none⟩,
      ⟨some 8, .tk 10, none⟩,
      ⟨some 11, .ext (.t 8) 0, none⟩,
      ⟨some 12, .ext (.t 8) 1, none⟩,
      ⟨some 13, .ext (.t 8) 2, none⟩,
      ⟨some 4, .cp (.t 11), none⟩,
      ⟨some 0, .cp (.t 12), none⟩,
      ⟨some 5, .cp (.t 13), none⟩]) (
  .seq (.seq (.reg [⟨some 14, .cp (.t 5), none⟩,
      ⟨some 15, .bin .neq (.t 14) (.c (.int .i64 0)), none⟩]) (
  .cond (.t 15) (
    .seq (.reg [⟨some 16, .bld [.int .i64 0, .int .u32 0, .int .u32 0, .int .u32 0, .int .u32 0] [], none⟩,
        ⟨some 17, .cp (.t 5), none⟩,
        ⟨none, .st 5 (.t 2) (.t 16), none⟩,
        ⟨some 3, .cp (.t 17), none⟩]) (
    .ret)) (
    .skip))) (
  .seq (.reg [⟨some 19, .cp (.t 0), none⟩,
      ⟨some 20, .call 86 [.t 19], none⟩,
      ⟨some 18, .tk 20, none⟩,
      ⟨some 21, .ext (.t 18) 0, none⟩,
      ⟨some 22, .ext (.t 18) 1, none⟩,
      ⟨some 23, .ext (.t 18) 2, none⟩,
      ⟨some 6, .alloc 1 4 [.int .u32 0, .int .u32 0, .int .u32 0, .int .u32 0], none⟩,
      ⟨none, .st 4 (.t 6) (.t 21), none⟩,
      ⟨some 0, .cp (.t 22), none⟩,
      ⟨some 5, .cp (.t 23), none⟩]) (
  .seq (.seq (.reg [⟨some 24, .cp (.t 5), none⟩,
      ⟨some 25, .bin .neq (.t 24) (.c (.int .i64 0)), none⟩]) (
  .cond (.t 25) (
    .seq (.reg [⟨some 26, .bld [.int .i64 0, .int .u32 0, .int .u32 0, .int .u32 0, .int .u32 0] [], none⟩,
        ⟨some 27, .cp (.t 5), none⟩,
        ⟨none, .st 5 (.t 2) (.t 26), none⟩,
        ⟨some 3, .cp (.t 27), none⟩]) (
    .ret)) (
    .skip))) (
  .seq (.reg [⟨some 28, .cp (.t 4), none⟩,
      ⟨some 29, .cv (.int .i64) (.t 28), none⟩,
      ⟨some 30, .ld (some 4) (.t 6), none⟩,
      ⟨some 31, .bld [.int .i64 0, .int .u32 0, .int .u32 0, .int .u32 0, .int .u32 0] [(0, 1, .t 29), (1, 4, .t 30)], none⟩,
      ⟨some 7, .alloc 2 5 [.int .i64 0, .int .u32 0, .int .u32 0, .int .u32 0, .int .u32 0], none⟩,
      ⟨none, .st 5 (.t 7) (.t 31), none⟩]) (
  .seq (.seq (.reg [⟨some 32, .ld (some 5) (.t 7), none⟩,
      ⟨some 33, .call 21 [.t 32], none⟩,
      ⟨some 34, .un .not (.t 33), none⟩,
      ⟨some 35, .cp (.t 34), none⟩,
      ⟨some 36, .cp (.t 0), some (35, false)⟩,
      ⟨some 37, .call 87 [.t 36], some (35, false)⟩,
      ⟨some 38, .bin .neq (.t 37) (.c (.int .i64 0)), some (35, false)⟩,
      ⟨some 39, .pick (.t 35) (.c (.bool true)) (.t 38), none⟩]) (
  .cond (.t 39) (
    .seq (.reg [⟨some 40, .bld [.int .i64 0, .int .u32 0, .int .u32 0, .int .u32 0, .int .u32 0] [], none⟩,
        ⟨none, .st 5 (.t 2) (.t 40), none⟩,
        ⟨some 3, .cp (.c (.int .i64 3)), none⟩]) (
    .ret)) (
    .skip))) (
  .seq (.reg [⟨some 41, .ld (some 5) (.t 7), none⟩,
      ⟨none, .st 5 (.t 2) (.t 41), none⟩,
      ⟨some 3, .cp (.c (.int .i64 0)), none⟩]) (
  .ret))))))))
def af19 : AFn := ⟨42, 3, [.c 2 (some 5), .t 3], a19⟩
theorem ak19 : chkF Try.prog 19 af19 = true := by kernel_rfl

-- f20 fingerpost/hello.Right  boxes 1 notes []
def a20 : AC := .seq (.reg [⟨some 1, .box 0 5 (.t 0), none⟩,
      ⟨some 2, .cp (.c (.bool false)), none⟩]) (
  .seq (.reg [⟨some 3, .fa 0 (.t 1), none⟩,
      ⟨some 4, .ld none (.t 3), none⟩,
      ⟨some 5, .call 88 [.t 4], none⟩,
      ⟨some 6, .cp (.t 5), none⟩,
      ⟨some 7, .fa 1 (.t 1), some (6, true)⟩,
      ⟨some 8, .fa 0 (.t 7), some (6, true)⟩,
      ⟨some 9, .ld (some 2) (.t 8), some (6, true)⟩,
      ⟨some 10, .call 89 [.t 9], some (6, true)⟩,
      ⟨some 11, .un .not (.t 10), some (6, true)⟩,
      ⟨some 12, .pick (.t 6) (.t 11) (.c (.bool false)), none⟩,
      ⟨some 2, .cp (.t 12), none⟩]) (
  .ret))
def af20 : AFn := ⟨13, 1, [.t 2], a20⟩
theorem ak20 : chkF Try.prog 20 af20 = true := by kernel_rfl

-- f21 fingerpost/fingerpostref06.Right  boxes 1 notes []
def a21 : AC := .seq (.reg [⟨some 1, .box 0 5 (.t 0), none⟩,
      ⟨some 2, .cp (.c (.bool false)), none⟩]) (
  .seq (.reg [⟨some 3, .fa 0 (.t 1), none⟩,
      ⟨some 4, .ld none (.t 3), none⟩,
      ⟨some 5, .call 90 [.t 4], none⟩,
      ⟨some 6, .cp (.t 5), none⟩,
      ⟨some 7, .fa 1 (.t 1), some (6, true)⟩,
      ⟨some 8, .fa 0 (.t 7), some (6, true)⟩,
      ⟨some 9, .ld (some 2) (.t 8), some (6, true)⟩,
      ⟨some 10, .call 91 [.t 9], some (6, true)⟩,
      ⟨some 11, .un .not (.t 10), some (6, true)⟩,
      ⟨some 12, .pick (.t 6) (.t 11) (.c (.bool false)), none⟩,
      ⟨some 2, .cp (.t 12), none⟩]) (
  .ret))
def af21 : AFn := ⟨13, 1, [.t 2], a21⟩
theorem ak21 : chkF Try.prog 21 af21 = true := by kernel_rfl

-- f78 fingerpost/fingerpostlaw06.some  boxes 1 notes []
def a78 : AC := .seq (.reg [⟨some 0, .alloc 0 5 [.int .i64 0, .int .u32 0, .int .u32 0, .int .u32 0, .int .u32 0], none⟩]) (
  .seq (.reg [⟨some 1, .bld [.int .u32 0, .int .u32 0] [(0, 1, .c (.int .u32 1)), (1, 1, .c (.int .u32 2))], none⟩,
      ⟨some 2, .bld [.int .u32 0, .int .u32 0, .int .u32 0, .int .u32 0] [(0, 2, .t 1)], none⟩,
      ⟨some 3, .bld [.int .i64 0, .int .u32 0, .int .u32 0, .int .u32 0, .int .u32 0] [(0, 1, .c (.int .i64 3)), (1, 4, .t 2)], none⟩,
      ⟨none, .st 5 (.t 0) (.t 3), none⟩]) (
  .ret))
def af78 : AFn := ⟨4, 1, [.c 0 (some 5)], a78⟩
theorem ak78 : chkF Try.prog 78 af78 = true := by kernel_rfl

end Go.Proofs.Ytkcdeefnkbbacaa

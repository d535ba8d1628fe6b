/- The functions as data, and that they are the program's. -/
import Derived.Test.YtkcdeefnkbbacaaAwN
set_option maxRecDepth 100000
namespace Go.Proofs.Ytkcdeefnkbbacaa
open Go.RowKit
-- f7 fingerpost/fingerpostlaw09.AcksBack  boxes 3 notes []
def a7_l1 : AC := .seq (.reg [⟨some 94, .bin .lss (.t 93) (.t 92), none⟩]) (
  .seq (.cond (.t 94) (
    .skip) (
    .exit 2)) (
  .seq (.block 3 (
    .seq (.reg [⟨some 95, .iaE 1 (.t 91) (.t 93), none⟩,
        ⟨some 96, .ld none (.t 95), none⟩,
        ⟨some 21, .cp (.t 96), none⟩]) (
    .reg [⟨some 97, .cp (.t 19), none⟩,
        ⟨some 98, .cp (.t 97), none⟩,
        ⟨some 99, .cp (.t 21), some (98, false)⟩,
        ⟨some 100, .cp (.t 18), some (98, false)⟩,
        ⟨some 101, .bin .eql (.t 99) (.t 100), some (98, false)⟩,
        ⟨some 102, .pick (.t 98) (.c (.bool true)) (.t 101), none⟩,
        ⟨some 19, .cp (.t 102), none⟩]))) (
  .reg [⟨some 103, .bin .add (.t 93) (.c (.int .i64 1)), none⟩,
      ⟨some 93, .cp (.t 103), none⟩])))
def a7_l0 : AC := .seq (.seq (.reg [⟨some 85, .cp (.t 18), none⟩,
      ⟨some 86, .cp (.t 1), none⟩,
      ⟨some 87, .bin .add (.t 86) (.c (.int .i64 8)), none⟩,
      ⟨some 88, .bin .lss (.t 85) (.t 87), none⟩]) (
  .cond (.t 88) (
    .skip) (
    .exit 0))) (
  .seq (.block 1 (
    .seq (.reg [⟨some 19, .cp (.c (.bool false)), none⟩]) (
    .seq (.seq (.reg [⟨some 91, .cp (.t 2), none⟩,
        ⟨some 92, .len (.t 91), none⟩,
        ⟨some 93, .cp (.c (.int .i64 0)), none⟩]) (
    .block 2 (
      .loop [false, false, false, false, false, false, false, false, false, false, false, false, false, false, false, false, false, false, false, false, false, true, false, false, false, false, false, false, false, false, false, false, false, false, false, false, false, false, false, false, false, false, false, false, false, false, false, false, false, false, false, false, false, false, false, false, false, false, false, false, false, false, false, false, false, false, false, false, false, false, false, false, false, false, false, false, false, false, false, false, false, false, false, false, false, false, false, false, false, false, false, false, false, false, true, true, true, true, true, true, true, true, true, true] [] a7_l1))) (
    .seq (.reg [⟨some 104, .ld (some 7) (.t 13), none⟩,
        ⟨some 105, .cp (.t 18), none⟩,
        ⟨some 106, .call 40 [.t 104, .t 105], none⟩,
        ⟨some 107, .cp (.t 19), none⟩,
        ⟨some 108, .eqB true (.t 106) (.t 107), none⟩]) (
    .cond (.t 108) (
      .seq (.reg [⟨some 6, .cp (.c (.bool false)), none⟩]) (
      .ret)) (
      .skip)))))) (
  .reg [⟨some 89, .cp (.t 18), none⟩,
      ⟨some 90, .bin .add (.t 89) (.c (.int .i64 1)), none⟩,
      ⟨some 18, .cp (.t 90), none⟩]))
def a7 : AC := .seq (.reg [⟨some 6, .cp (.c (.bool false)), none⟩]) (
  .seq (.seq (.reg [⟨some 22, .cp (.t 0), none⟩,
      ⟨some 23, .lenS (.t 22), none⟩,
      ⟨some 24, .bin .gtr (.t 23) (.c (.int .i64 300)), none⟩,
      ⟨some 25, .cp (.t 24), none⟩,
      ⟨some 26, .cp (.t 2), some (25, false)⟩,
      ⟨some 27, .len (.t 26), some (25, false)⟩,
      ⟨some 28, .bin .gtr (.t 27) (.c (.int .i64 100)), some (25, false)⟩,
      ⟨some 29, .pick (.t 25) (.c (.bool true)) (.t 28), none⟩]) (
  .cond (.t 29) (
    .seq (.reg [⟨some 30, .call 36 [], none⟩,
        ⟨some 6, .cp (.t 30), none⟩]) (
    .ret)) (
    .skip))) (
  .seq (.seq (.reg [⟨some 32, .cp (.t 0), none⟩,
      ⟨some 33, .call 37 [.t 32], none⟩,
      ⟨some 31, .tk 33, none⟩,
      ⟨some 34, .ext (.t 31) 0, none⟩,
      ⟨some 35, .ext (.t 31) 1, none⟩,
      ⟨some 7, .alloc 0 7 [.int .i64 0, .int .u32 0, .int .u32 0, .int .u32 0, .int .u32 0, .int .i64 0, .int .i64 0], none⟩,
      ⟨none, .st 7 (.t 7) (.t 34), none⟩,
      ⟨some 8, .cp (.t 35), none⟩]) (
  .seq (.reg [⟨some 36, .cp (.t 8), none⟩,
      ⟨some 37, .bin .eql (.t 36) (.c (.int .i64 0)), none⟩]) (
  .cond (.t 37) (
    .seq (.reg [⟨some 39, .ld (some 7) (.t 7), none⟩,
        ⟨some 40, .call 38 [.t 39], none⟩,
        ⟨some 38, .tk 40, none⟩,
        ⟨some 41, .ext (.t 38) 0, none⟩,
        ⟨some 42, .ext (.t 38) 1, none⟩,
        ⟨some 9, .cp (.t 41), none⟩,
        ⟨some 10, .cp (.t 42), none⟩]) (
    .seq (.reg [⟨some 43, .cp (.t 10), none⟩,
        ⟨some 44, .bin .neq (.t 43) (.c (.int .i64 0)), none⟩,
        ⟨some 45, .cp (.t 44), none⟩,
        ⟨some 46, .cp (.t 9), some (45, false)⟩,
        ⟨some 47, .cp (.t 0), some (45, false)⟩,
        ⟨some 48, .bin .neq (.t 46) (.t 47), some (45, false)⟩,
        ⟨some 49, .pick (.t 45) (.c (.bool true)) (.t 48), none⟩]) (
    .cond (.t 49) (
      .seq (.reg [⟨some 6, .cp (.c (.bool false)), none⟩]) (
      .ret)) (
      .skip)))) (
    .skip)))) (
  .seq (.reg [⟨some 50, .cp (.t 1), none⟩,
      ⟨some 51, .cv (.int .u64) (.t 50), none⟩,
      ⟨some 52, .bin .rem (.t 51) (.c (.int .u64 60000)), none⟩,
      ⟨some 53, .cv (.int .i64) (.t 52), none⟩,
      ⟨some 1, .cp (.t 53), none⟩]) (
  .seq (.reg [⟨some 55, .cp (.t 1), none⟩,
      ⟨some 56, .cp (.t 2), none⟩,
      ⟨some 57, .call 39 [.t 55, .t 56], none⟩,
      ⟨some 54, .tk 57, none⟩,
      ⟨some 58, .ext (.t 54) 0, none⟩,
      ⟨some 59, .ext (.t 54) 1, none⟩,
      ⟨some 11, .cp (.t 58), none⟩,
      ⟨some 12, .cp (.t 59), none⟩]) (
  .seq (.reg [⟨some 60, .cp (.t 11), none⟩,
      ⟨some 61, .cp (.t 12), none⟩,
      ⟨some 62, .bld [.int .i64 0, .int .u32 0, .int .u32 0, .int .u32 0, .int .u32 0, .int .i64 0, .int .i64 0] [(0, 1, .c (.int .i64 1)), (5, 1, .t 60), (6, 1, .t 61)], none⟩,
      ⟨some 13, .alloc 1 7 [.int .i64 0, .int .u32 0, .int .u32 0, .int .u32 0, .int .u32 0, .int .i64 0, .int .i64 0], none⟩,
      ⟨none, .st 7 (.t 13) (.t 62), none⟩]) (
  .seq (.reg [⟨some 64, .ld (some 7) (.t 13), none⟩,
      ⟨some 65, .call 38 [.t 64], none⟩,
      ⟨some 63, .tk 65, none⟩,
      ⟨some 66, .ext (.t 63) 0, none⟩,
      ⟨some 67, .ext (.t 63) 1, none⟩,
      ⟨some 14, .cp (.t 66), none⟩,
      ⟨some 15, .cp (.t 67), none⟩]) (
  .seq (.reg [⟨some 69, .cp (.t 14), none⟩,
      ⟨some 70, .call 37 [.t 69], none⟩,
      ⟨some 68, .tk 70, none⟩,
      ⟨some 71, .ext (.t 68) 0, none⟩,
      ⟨some 72, .ext (.t 68) 1, none⟩,
      ⟨some 16, .alloc 2 7 [.int .i64 0, .int .u32 0, .int .u32 0, .int .u32 0, .int .u32 0, .int .i64 0, .int .i64 0], none⟩,
      ⟨none, .st 7 (.t 16) (.t 71), none⟩,
      ⟨some 17, .cp (.t 72), none⟩]) (
  .seq (.seq (.reg [⟨some 73, .cp (.t 15), none⟩,
      ⟨some 74, .bin .neq (.t 73) (.c (.int .i64 0)), none⟩,
      ⟨some 75, .cp (.t 74), none⟩,
      ⟨some 76, .cp (.t 17), some (75, false)⟩,
      ⟨some 77, .bin .neq (.t 76) (.c (.int .i64 0)), some (75, false)⟩,
      ⟨some 78, .pick (.t 75) (.c (.bool true)) (.t 77), none⟩,
      ⟨some 79, .cp (.t 78), none⟩,
      ⟨some 80, .ld (some 7) (.t 16), some (79, false)⟩,
      ⟨some 81, .ld (some 7) (.t 13), some (79, false)⟩,
      ⟨some 82, .eqA true [.i, .i, .i, .i, .i, .i, .i] (.t 80) (.t 81), some (79, false)⟩,
      ⟨some 83, .pick (.t 79) (.c (.bool true)) (.t 82), none⟩]) (
  .cond (.t 83) (
    .seq (.reg [⟨some 6, .cp (.c (.bool false)), none⟩]) (
    .ret)) (
    .skip))) (
  .seq (.seq (.reg [⟨some 84, .cp (.t 1), none⟩,
      ⟨some 18, .cp (.t 84), none⟩]) (
  .block 0 (
    .loop [false, false, false, false, false, false, true, false, false, false, false, false, false, false, false, false, false, false, false, true, false, true, false, false, false, false, false, false, false, false, false, false, false, false, false, false, false, false, false, false, false, false, false, false, false, false, false, false, false, false, false, false, false, false, false, false, false, false, false, false, false, false, false, false, false, false, false, false, false, false, false, false, false, false, false, false, false, false, false, false, false, false, false, false, false, true, true, true, true, true, true, true, true, true, true, true, true, true, true, true, true, true, true, true, true, true, true, true, true] [] a7_l0))) (
  .seq (.reg [⟨some 109, .ld (some 7) (.t 13), none⟩,
      ⟨some 110, .cp (.t 1), none⟩,
      ⟨some 111, .bin .add (.t 110) (.c (.int .i64 8)), none⟩,
      ⟨some 112, .call 40 [.t 109, .t 111], none⟩,
      ⟨some 113, .un .not (.t 112), none⟩,
      ⟨some 114, .cp (.t 113), none⟩,
      ⟨some 115, .cp (.t 1), some (114, true)⟩,
      ⟨some 116, .bin .eql (.t 115) (.c (.int .i64 0)), some (114, true)⟩,
      ⟨some 117, .cp (.t 116), some (114, true)⟩,
      ⟨some 118, .ld (some 7) (.t 13), some (117, false)⟩,
      ⟨some 119, .cp (.t 1), some (117, false)⟩,
      ⟨some 120, .bin .sub (.t 119) (.c (.int .i64 1)), some (117, false)⟩,
      ⟨some 121, .call 40 [.t 118, .t 120], some (117, false)⟩,
      ⟨some 122, .pick (.t 117) (.c (.bool true)) (.t 121), some (114, true)⟩,
      ⟨some 123, .pick (.t 114) (.t 122) (.c (.bool false)), none⟩,
      ⟨some 124, .cp (.t 123), none⟩,
      ⟨some 125, .call 36 [], some (124, true)⟩,
      ⟨some 126, .pick (.t 124) (.t 125) (.c (.bool false)), none⟩,
      ⟨some 6, .cp (.t 126), none⟩]) (
  .ret)))))))))))
def af7 : AFn := ⟨127, 3, [.t 6], a7⟩
theorem ak7 : chkF Try.prog 7 af7 = true := by kernel_rfl

-- f8 fingerpost/fingerpostlaw09.AcksBoth  boxes 3 notes []
def a8_l0 : AC := .seq (.reg [⟨some 33, .bin .lss (.t 32) (.t 31), none⟩]) (
  .seq (.cond (.t 33) (
    .skip) (
    .exit 0)) (
  .seq (.block 1 (
    .seq (.reg [⟨some 34, .cp (.t 32), none⟩,
        ⟨some 8, .cp (.t 34), none⟩]) (
    .seq (.drw [⟨some 35, .cp (.t 6), none⟩,
        ⟨some 36, .cp (.t 8), none⟩,
        ⟨some 37, .iaE 1 (.t 35) (.t 36), none⟩,
        ⟨some 38, .ld none (.t 37), none⟩,
        ⟨some 39, .cp (.t 7), none⟩,
        ⟨some 40, .cp (.t 8), none⟩,
        ⟨some 41, .iaE 1 (.t 39) (.t 40), none⟩,
        ⟨some 42, .ld none (.t 41), none⟩,
        ⟨some 43, .bin .neq (.t 38) (.t 42), none⟩,
        ⟨some 44, .cp (.t 43), none⟩,
        ⟨some 45, .ld (some 7) (.t 2), some (44, false)⟩,
        ⟨some 46, .cp (.t 6), some (44, false)⟩,
        ⟨some 47, .cp (.t 8), some (44, false)⟩,
        ⟨some 48, .iaE 1 (.t 46) (.t 47), some (44, false)⟩,
        ⟨some 49, .ld none (.t 48), some (44, false)⟩,
        ⟨some 50, .call 40 [.t 45, .t 49], some (44, false)⟩,
        ⟨some 51, .un .not (.t 50), some (44, false)⟩,
        ⟨some 52, .pick (.t 44) (.c (.bool true)) (.t 51), none⟩,
        ⟨some 53, .cp (.t 52), none⟩,
        ⟨some 54, .cp (.t 8), some (53, false)⟩,
        ⟨some 55, .bin .gtr (.t 54) (.c (.int .i64 0)), some (53, false)⟩,
        ⟨some 56, .cp (.t 55), some (53, false)⟩,
        ⟨some 57, .cp (.t 6), some (56, true)⟩,
        ⟨some 58, .cp (.t 8), some (56, true)⟩,
        ⟨some 59, .iaE 1 (.t 57) (.t 58), some (56, true)⟩,
        ⟨some 60, .ld none (.t 59), some (56, true)⟩,
        ⟨some 61, .cp (.t 6), some (56, true)⟩,
        ⟨some 62, .cp (.t 8), some (56, true)⟩,
        ⟨some 63, .bin .sub (.t 62) (.c (.int .i64 1)), some (56, true)⟩,
        ⟨some 64, .iaE 1 (.t 61) (.t 63), some (56, true)⟩,
        ⟨some 65, .ld none (.t 64), some (56, true)⟩,
        ⟨some 66, .bin .leq (.t 60) (.t 65), some (56, true)⟩,
        ⟨some 67, .pick (.t 56) (.t 66) (.c (.bool false)), some (53, false)⟩,
        ⟨some 68, .pick (.t 53) (.c (.bool true)) (.t 67), none⟩] []) (
    .cond (.t 68) (
      .seq (.reg [⟨some 4, .cp (.c (.bool false)), none⟩]) (
      .ret)) (
      .skip))))) (
  .reg [⟨some 69, .bin .add (.t 32) (.c (.int .i64 1)), none⟩,
      ⟨some 32, .cp (.t 69), none⟩])))
def a8_l1 : AC := .seq (.reg [⟨some 90, .bin .lss (.t 89) (.c (.int .i64 8)), none⟩]) (
  .seq (.cond (.t 90) (
    .skip) (
    .exit 2)) (
  .seq (.block 3 (
    .seq (.reg [⟨some 91, .cp (.t 89), none⟩,
        ⟨some 9, .cp (.t 91), none⟩]) (
    .seq (.reg [⟨some 92, .fa 5 (.t 5), none⟩,
        ⟨some 93, .ld none (.t 92), none⟩,
        ⟨some 94, .cp (.t 9), none⟩,
        ⟨some 95, .bin .add (.t 93) (.t 94), none⟩,
        ⟨some 10, .cp (.t 95), none⟩]) (
    .seq (.drw [⟨some 96, .ld (some 7) (.t 5), none⟩,
        ⟨some 97, .cp (.t 10), none⟩,
        ⟨some 98, .call 40 [.t 96, .t 97], none⟩,
        ⟨some 99, .ld (some 7) (.t 2), none⟩,
        ⟨some 100, .cp (.t 10), none⟩,
        ⟨some 101, .call 40 [.t 99, .t 100], none⟩,
        ⟨some 102, .cp (.t 101), none⟩,
        ⟨some 103, .ld (some 7) (.t 3), some (102, false)⟩,
        ⟨some 104, .cp (.t 10), some (102, false)⟩,
        ⟨some 105, .call 40 [.t 103, .t 104], some (102, false)⟩,
        ⟨some 106, .pick (.t 102) (.c (.bool true)) (.t 105), none⟩,
        ⟨some 107, .eqB true (.t 98) (.t 106), none⟩] []) (
    .cond (.t 107) (
      .seq (.reg [⟨some 4, .cp (.c (.bool false)), none⟩]) (
      .ret)) (
      .skip)))))) (
  .reg [⟨some 108, .bin .add (.t 89) (.c (.int .i64 1)), none⟩,
      ⟨some 89, .cp (.t 108), none⟩])))
def a8 : AC := .seq (.reg [⟨some 2, .box 0 7 (.t 0), none⟩,
      ⟨some 3, .box 1 7 (.t 1), none⟩,
      ⟨some 4, .cp (.c (.bool false)), none⟩]) (
  .seq (.reg [⟨some 11, .ld (some 7) (.t 2), none⟩,
      ⟨some 12, .ld (some 7) (.t 3), none⟩,
      ⟨some 13, .call 41 [.t 11, .t 12], none⟩,
      ⟨some 5, .alloc 2 7 [.int .i64 0, .int .u32 0, .int .u32 0, .int .u32 0, .int .u32 0, .int .i64 0, .int .i64 0], none⟩,
      ⟨none, .st 7 (.t 5) (.t 13), none⟩]) (
  .seq (.drw [⟨some 14, .ld (some 7) (.t 2), none⟩,
      ⟨some 15, .call 42 [.t 14], none⟩,
      ⟨some 16, .ld (some 7) (.t 2), none⟩,
      ⟨some 17, .call 43 [.t 16], none⟩,
      ⟨some 6, .tk 15, none⟩,
      ⟨some 7, .tk 17, none⟩] []) (
  .seq (.seq (.drw [⟨some 18, .ld (some 7) (.t 5), none⟩,
      ⟨some 19, .ld (some 7) (.t 2), none⟩,
      ⟨some 20, .ld (some 7) (.t 3), none⟩,
      ⟨some 21, .call 44 [.t 19, .t 20], none⟩,
      ⟨some 22, .eqA true [.i, .i, .i, .i, .i, .i, .i] (.t 18) (.t 21), none⟩,
      ⟨some 23, .cp (.t 22), none⟩,
      ⟨some 24, .cp (.t 6), some (23, false)⟩,
      ⟨some 25, .len (.t 24), some (23, false)⟩,
      ⟨some 26, .cp (.t 7), some (23, false)⟩,
      ⟨some 27, .len (.t 26), some (23, false)⟩,
      ⟨some 28, .bin .neq (.t 25) (.t 27), some (23, false)⟩,
      ⟨some 29, .pick (.t 23) (.c (.bool true)) (.t 28), none⟩] []) (
  .cond (.t 29) (
    .seq (.reg [⟨some 4, .cp (.c (.bool false)), none⟩]) (
    .ret)) (
    .skip))) (
  .seq (.seq (.reg [⟨some 30, .cp (.t 6), none⟩,
      ⟨some 31, .len (.t 30), none⟩,
      ⟨some 32, .cp (.c (.int .i64 0)), none⟩]) (
  .block 0 (
    .loop [false, false, false, false, true, false, false, false, true, false, false, false, false, false, false, false, false, false, false, false, false, false, false, false, false, false, false, false, false, false, false, false, false, true, true, true, true, true, true, true, true, true, true, true, true, true, true, true, true, true, true, true, true, true, true, true, true, true, true, true, true, true, true, true, true, true, true, true, true, true] [] a8_l0))) (
  .seq (.seq (.reg [⟨some 70, .ld (some 7) (.t 2), none⟩,
      ⟨some 71, .call 45 [.t 70], none⟩,
      ⟨some 72, .un .not (.t 71), none⟩,
      ⟨some 73, .cp (.t 72), none⟩,
      ⟨some 74, .ld (some 7) (.t 3), some (73, false)⟩,
      ⟨some 75, .call 45 [.t 74], some (73, false)⟩,
      ⟨some 76, .un .not (.t 75), some (73, false)⟩,
      ⟨some 77, .pick (.t 73) (.c (.bool true)) (.t 76), none⟩,
      ⟨some 78, .cp (.t 77), none⟩,
      ⟨some 79, .fa 5 (.t 2), some (78, false)⟩,
      ⟨some 80, .ld none (.t 79), some (78, false)⟩,
      ⟨some 81, .bin .gtr (.t 80) (.c (.int .i64 60000)), some (78, false)⟩,
      ⟨some 82, .pick (.t 78) (.c (.bool true)) (.t 81), none⟩,
      ⟨some 83, .cp (.t 82), none⟩,
      ⟨some 84, .fa 5 (.t 3), some (83, false)⟩,
      ⟨some 85, .ld none (.t 84), some (83, false)⟩,
      ⟨some 86, .bin .gtr (.t 85) (.c (.int .i64 60000)), some (83, false)⟩,
      ⟨some 87, .pick (.t 83) (.c (.bool true)) (.t 86), none⟩]) (
  .cond (.t 87) (
    .seq (.reg [⟨some 88, .call 36 [], none⟩,
        ⟨some 4, .cp (.t 88), none⟩]) (
    .ret)) (
    .skip))) (
  .seq (.seq (.reg [⟨some 89, .cp (.c (.int .i64 0)), none⟩]) (
  .block 2 (
    .loop [false, false, false, false, true, false, false, false, false, true, true, false, false, false, false, false, false, false, false, false, false, false, false, false, false, false, false, false, false, false, false, false, false, false, false, false, false, false, false, false, false, false, false, false, false, false, false, false, false, false, false, false, false, false, false, false, false, false, false, false, false, false, false, false, false, false, false, false, false, false, false, false, false, false, false, false, false, false, false, false, false, false, false, false, false, false, false, false, false, false, true, true, true, true, true, true, true, true, true, true, true, true, true, true, true, true, true, true, true] [] a8_l1))) (
  .seq (.reg [⟨some 109, .fa 5 (.t 5), none⟩,
      ⟨some 110, .ld none (.t 109), none⟩,
      ⟨some 111, .fa 5 (.t 2), none⟩,
      ⟨some 112, .ld none (.t 111), none⟩,
      ⟨some 113, .fa 5 (.t 3), none⟩,
      ⟨some 114, .ld none (.t 113), none⟩,
      ⟨some 115, .mm true [.t 112, .t 114], none⟩,
      ⟨some 116, .bin .eql (.t 110) (.t 115), none⟩,
      ⟨some 117, .cp (.t 116), none⟩,
      ⟨some 118, .ld (some 7) (.t 5), some (117, true)⟩,
      ⟨some 119, .call 45 [.t 118], some (117, true)⟩,
      ⟨some 120, .pick (.t 117) (.t 119) (.c (.bool false)), none⟩,
      ⟨some 121, .cp (.t 120), none⟩,
      ⟨some 122, .call 36 [], some (121, true)⟩,
      ⟨some 123, .pick (.t 121) (.t 122) (.c (.bool false)), none⟩,
      ⟨some 4, .cp (.t 123), none⟩]) (
  .ret))))))))
def af8 : AFn := ⟨124, 3, [.t 4], a8⟩
theorem ak8 : chkF Try.prog 8 af8 = true := by kernel_rfl

-- f36 fingerpost/fingerpostlaw09.awake  boxes 3 notes []
def a36 : AC := .seq (.reg [⟨some 0, .cp (.c (.bool false)), none⟩]) (
  .seq (.reg [⟨some 11, .bs 1 [.c (.int .i64 7), .c (.int .i64 3), .c (.int .i64 13)], none⟩,
      ⟨some 12, .call 39 [.c (.int .i64 5), .t 11], none⟩,
      ⟨some 10, .tk 12, none⟩,
      ⟨some 13, .ext (.t 10) 0, none⟩,
      ⟨some 14, .ext (.t 10) 1, none⟩,
      ⟨some 1, .cp (.t 13), none⟩,
      ⟨some 2, .cp (.t 14), none⟩]) (
  .seq (.reg [⟨some 15, .cp (.t 1), none⟩,
      ⟨some 16, .cp (.t 2), none⟩,
      ⟨some 17, .bld [.int .i64 0, .int .u32 0, .int .u32 0, .int .u32 0, .int .u32 0, .int .i64 0, .int .i64 0] [(0, 1, .c (.int .i64 2)), (5, 1, .t 15), (6, 1, .t 16)], none⟩,
      ⟨some 3, .alloc 0 7 [.int .i64 0, .int .u32 0, .int .u32 0, .int .u32 0, .int .u32 0, .int .i64 0, .int .i64 0], none⟩,
      ⟨none, .st 7 (.t 3) (.t 17), none⟩]) (
  .seq (.reg [⟨some 19, .ld (some 7) (.t 3), none⟩,
      ⟨some 20, .call 38 [.t 19], none⟩,
      ⟨some 18, .tk 20, none⟩,
      ⟨some 21, .ext (.t 18) 0, none⟩,
      ⟨some 22, .ext (.t 18) 1, none⟩,
      ⟨some 4, .cp (.t 21), none⟩,
      ⟨some 5, .cp (.t 22), none⟩]) (
  .seq (.reg [⟨some 24, .cp (.t 4), none⟩,
      ⟨some 25, .call 37 [.t 24], none⟩,
      ⟨some 23, .tk 25, none⟩,
      ⟨some 26, .ext (.t 23) 0, none⟩,
      ⟨some 27, .ext (.t 23) 1, none⟩,
      ⟨some 6, .alloc 1 7 [.int .i64 0, .int .u32 0, .int .u32 0, .int .u32 0, .int .u32 0, .int .i64 0, .int .i64 0], none⟩,
      ⟨none, .st 7 (.t 6) (.t 26), none⟩,
      ⟨some 7, .cp (.t 27), none⟩]) (
  .seq (.reg [⟨some 29, .cp (.t 4), none⟩,
      ⟨some 30, .bin .add (.t 29) (.c (.str [120])), none⟩,
      ⟨some 31, .call 37 [.t 30], none⟩,
      ⟨some 28, .tk 31, none⟩,
      ⟨some 32, .ext (.t 28) 0, none⟩,
      ⟨some 33, .ext (.t 28) 1, none⟩,
      ⟨some 8, .alloc 2 7 [.int .i64 0, .int .u32 0, .int .u32 0, .int .u32 0, .int .u32 0, .int .i64 0, .int .i64 0], none⟩,
      ⟨none, .st 7 (.t 8) (.t 32), none⟩,
      ⟨some 9, .cp (.t 33), none⟩]) (
  .seq (.reg [⟨some 34, .cp (.t 1), none⟩,
      ⟨some 35, .bin .eql (.t 34) (.c (.int .i64 5)), none⟩,
      ⟨some 36, .cp (.t 35), none⟩,
      ⟨some 37, .cp (.t 2), some (36, true)⟩,
      ⟨some 38, .bin .eql (.t 37) (.c (.int .i64 4)), some (36, true)⟩,
      ⟨some 39, .pick (.t 36) (.t 38) (.c (.bool false)), none⟩,
      ⟨some 40, .cp (.t 39), none⟩,
      ⟨some 41, .cp (.t 5), some (40, true)⟩,
      ⟨some 42, .bin .eql (.t 41) (.c (.int .i64 0)), some (40, true)⟩,
      ⟨some 43, .pick (.t 40) (.t 42) (.c (.bool false)), none⟩,
      ⟨some 44, .cp (.t 43), none⟩,
      ⟨some 45, .cp (.t 4), some (44, true)⟩,
      ⟨some 46, .lenS (.t 45), some (44, true)⟩,
      ⟨some 47, .bin .eql (.t 46) (.c (.int .i64 20)), some (44, true)⟩,
      ⟨some 48, .pick (.t 44) (.t 47) (.c (.bool false)), none⟩,
      ⟨some 49, .cp (.t 48), none⟩,
      ⟨some 50, .cp (.t 7), some (49, true)⟩,
      ⟨some 51, .bin .eql (.t 50) (.c (.int .i64 0)), some (49, true)⟩,
      ⟨some 52, .pick (.t 49) (.t 51) (.c (.bool false)), none⟩,
      ⟨some 53, .cp (.t 52), none⟩,
      ⟨some 54, .ld (some 7) (.t 6), some (53, true)⟩,
      ⟨some 55, .ld (some 7) (.t 3), some (53, true)⟩,
      ⟨some 56, .eqA false [.i, .i, .i, .i, .i, .i, .i] (.t 54) (.t 55), some (53, true)⟩,
      ⟨some 57, .pick (.t 53) (.t 56) (.c (.bool false)), none⟩,
      ⟨some 58, .cp (.t 57), none⟩,
      ⟨some 59, .cp (.t 9), some (58, true)⟩,
      ⟨some 60, .bin .eql (.t 59) (.c (.int .i64 3)), some (58, true)⟩,
      ⟨some 61, .pick (.t 58) (.t 60) (.c (.bool false)), none⟩,
      ⟨some 62, .cp (.t 61), none⟩,
      ⟨some 63, .ld (some 7) (.t 3), some (62, true)⟩,
      ⟨some 64, .call 40 [.t 63, .c (.int .i64 4)], some (62, true)⟩,
      ⟨some 65, .pick (.t 62) (.t 64) (.c (.bool false)), none⟩,
      ⟨some 66, .cp (.t 65), none⟩,
      ⟨some 67, .ld (some 7) (.t 3), some (66, true)⟩,
      ⟨some 68, .call 40 [.t 67, .c (.int .i64 5)], some (66, true)⟩,
      ⟨some 69, .un .not (.t 68), some (66, true)⟩,
      ⟨some 70, .pick (.t 66) (.t 69) (.c (.bool false)), none⟩,
      ⟨some 71, .cp (.t 70), none⟩,
      ⟨some 72, .ld (some 7) (.t 3), some (71, true)⟩,
      ⟨some 73, .call 40 [.t 72, .c (.int .i64 7)], some (71, true)⟩,
      ⟨some 74, .pick (.t 71) (.t 73) (.c (.bool false)), none⟩,
      ⟨some 75, .cp (.t 74), none⟩,
      ⟨some 76, .ld (some 7) (.t 3), some (75, true)⟩,
      ⟨some 77, .call 40 [.t 76, .c (.int .i64 13)], some (75, true)⟩,
      ⟨some 78, .un .not (.t 77), some (75, true)⟩,
      ⟨some 79, .pick (.t 75) (.t 78) (.c (.bool false)), none⟩,
      ⟨some 80, .cp (.t 79), none⟩,
      ⟨some 81, .ld (some 7) (.t 3), some (80, true)⟩,
      ⟨some 82, .call 45 [.t 81], some (80, true)⟩,
      ⟨some 83, .pick (.t 80) (.t 82) (.c (.bool false)), none⟩,
      ⟨some 84, .cp (.t 83), none⟩,
      ⟨some 85, .bld [.int .i64 0, .int .u32 0, .int .u32 0, .int .u32 0, .int .u32 0, .int .i64 0, .int .i64 0] [(6, 1, .c (.int .i64 256))], some (84, true)⟩,
      ⟨some 86, .call 45 [.t 85], some (84, true)⟩,
      ⟨some 87, .un .not (.t 86), some (84, true)⟩,
      ⟨some 88, .pick (.t 84) (.t 87) (.c (.bool false)), none⟩,
      ⟨some 0, .cp (.t 88), none⟩]) (
  .ret)))))))
def af36 : AFn := ⟨89, 3, [.t 0], a36⟩
theorem ak36 : chkF Try.prog 36 af36 = true := by kernel_rfl

-- f37 fingerpost/acks.Read  boxes 2 notes []
def a37 : AC := .seq (.reg [⟨some 2, .alloc 0 7 [.int .i64 0, .int .u32 0, .int .u32 0, .int .u32 0, .int .u32 0, .int .i64 0, .int .i64 0], none⟩,
      ⟨some 3, .cp (.c (.int .i64 0)), none⟩]) (
  .seq (.seq (.reg [⟨some 11, .cp (.t 0), none⟩,
      ⟨some 12, .lenS (.t 11), none⟩,
      ⟨some 13, .bin .lss (.t 12) (.c (.int .i64 20)), none⟩]) (
  .cond (.t 13) (
    .seq (.reg [⟨some 14, .bld [.int .i64 0, .int .u32 0, .int .u32 0, .int .u32 0, .int .u32 0, .int .i64 0, .int .i64 0] [], none⟩,
        ⟨none, .st 7 (.t 2) (.t 14), none⟩,
        ⟨some 3, .cp (.c (.int .i64 2)), none⟩]) (
    .ret)) (
    .skip))) (
  .seq (.reg [⟨some 15, .cp (.t 0), none⟩,
      ⟨some 16, .ixS (.t 15) (.c (.int .i64 0)), none⟩,
      ⟨some 17, .cv (.int .i64) (.t 16), none⟩,
      ⟨some 4, .cp (.t 17), none⟩]) (
  .seq (.seq (.reg [⟨some 18, .cp (.t 0), none⟩,
      ⟨some 19, .lenS (.t 18), none⟩,
      ⟨some 20, .bin .gtr (.t 19) (.c (.int .i64 20)), none⟩,
      ⟨some 21, .cp (.t 20), none⟩,
      ⟨some 22, .cp (.t 4), some (21, false)⟩,
      ⟨some 23, .call 88 [.t 22], some (21, false)⟩,
      ⟨some 24, .un .not (.t 23), some (21, false)⟩,
      ⟨some 25, .pick (.t 21) (.c (.bool true)) (.t 24), none⟩]) (
  .cond (.t 25) (
    .seq (.reg [⟨some 26, .bld [.int .i64 0, .int .u32 0, .int .u32 0, .int .u32 0, .int .u32 0, .int .i64 0, .int .i64 0] [], none⟩,
        ⟨none, .st 7 (.t 2) (.t 26), none⟩,
        ⟨some 3, .cp (.c (.int .i64 3)), none⟩]) (
    .ret)) (
    .skip))) (
  .seq (.reg [⟨some 28, .cp (.t 0), none⟩,
      ⟨some 29, .subS (.t 28) (some (.c (.int .i64 1))) none, none⟩,
      ⟨some 30, .call 83 [.t 29], none⟩,
      ⟨some 27, .tk 30, none⟩,
      ⟨some 31, .ext (.t 27) 0, none⟩,
      ⟨some 32, .ext (.t 27) 1, none⟩,
      ⟨some 33, .ext (.t 27) 2, none⟩,
      ⟨some 5, .alloc 1 4 [.int .u32 0, .int .u32 0, .int .u32 0, .int .u32 0], none⟩,
      ⟨none, .st 4 (.t 5) (.t 31), none⟩,
      ⟨some 6, .cp (.t 32), none⟩,
      ⟨some 7, .cp (.t 33), none⟩]) (
  .seq (.seq (.reg [⟨some 34, .cp (.t 7), none⟩,
      ⟨some 35, .bin .neq (.t 34) (.c (.int .i64 0)), none⟩]) (
  .cond (.t 35) (
    .seq (.reg [⟨some 36, .bld [.int .i64 0, .int .u32 0, .int .u32 0, .int .u32 0, .int .u32 0, .int .i64 0, .int .i64 0] [], none⟩,
        ⟨some 37, .cp (.t 7), none⟩,
        ⟨none, .st 7 (.t 2) (.t 36), none⟩,
        ⟨some 3, .cp (.t 37), none⟩]) (
    .ret)) (
    .skip))) (
  .seq (.reg [⟨some 39, .cp (.t 6), none⟩,
      ⟨some 40, .call 82 [.t 39, .c (.int .i64 2)], none⟩,
      ⟨some 38, .tk 40, none⟩,
      ⟨some 41, .ext (.t 38) 0, none⟩,
      ⟨some 42, .ext (.t 38) 1, none⟩,
      ⟨some 43, .ext (.t 38) 2, none⟩,
      ⟨some 8, .cp (.t 41), none⟩,
      ⟨some 6, .cp (.t 42), none⟩,
      ⟨some 7, .cp (.t 43), none⟩]) (
  .seq (.seq (.reg [⟨some 44, .cp (.t 7), none⟩,
      ⟨some 45, .bin .neq (.t 44) (.c (.int .i64 0)), none⟩]) (
  .cond (.t 45) (
    .seq (.reg [⟨some 46, .bld [.int .i64 0, .int .u32 0, .int .u32 0, .int .u32 0, .int .u32 0, .int .i64 0, .int .i64 0] [], none⟩,
        ⟨some 47, .cp (.t 7), none⟩,
        ⟨none, .st 7 (.t 2) (.t 46), none⟩,
        ⟨some 3, .cp (.t 47), none⟩]) (
    .ret)) (
    .skip))) (
  .seq (.reg [⟨some 49, .cp (.t 6), none⟩,
      ⟨some 50, .call 82 [.t 49, .c (.int .i64 1)], none⟩,
      ⟨some 48, .tk 50, none⟩,
      ⟨some 51, .ext (.t 48) 0, none⟩,
      ⟨some 52, .ext (.t 48) 1, none⟩,
      ⟨some 53, .ext (.t 48) 2, none⟩,
      ⟨some 9, .cp (.t 51), none⟩,
      ⟨some 10, .cp (.t 52), none⟩,
      ⟨some 7, .cp (.t 53), none⟩]) (
  .seq (.seq (.reg [⟨some 54, .cp (.t 7), none⟩,
      ⟨some 55, .bin .neq (.t 54) (.c (.int .i64 0)), none⟩]) (
  .cond (.t 55) (
    .seq (.reg [⟨some 56, .bld [.int .i64 0, .int .u32 0, .int .u32 0, .int .u32 0, .int .u32 0, .int .i64 0, .int .i64 0] [], none⟩,
        ⟨some 57, .cp (.t 7), none⟩,
        ⟨none, .st 7 (.t 2) (.t 56), none⟩,
        ⟨some 3, .cp (.t 57), none⟩]) (
    .ret)) (
    .skip))) (
  .seq (.reg [⟨some 58, .cp (.t 4), none⟩,
      ⟨some 59, .ld (some 4) (.t 5), none⟩,
      ⟨some 60, .cp (.t 8), none⟩,
      ⟨some 61, .cv (.int .i64) (.t 60), none⟩,
      ⟨some 62, .cp (.t 9), none⟩,
      ⟨some 63, .cv (.int .i64) (.t 62), none⟩,
      ⟨some 64, .bld [.int .i64 0, .int .u32 0, .int .u32 0, .int .u32 0, .int .u32 0, .int .i64 0, .int .i64 0] [(0, 1, .t 58), (1, 4, .t 59), (5, 1, .t 61), (6, 1, .t 63)], none⟩,
      ⟨none, .st 7 (.t 2) (.t 64), none⟩,
      ⟨some 3, .cp (.c (.int .i64 0)), none⟩]) (
  .ret)))))))))))
def af37 : AFn := ⟨65, 2, [.c 2 (some 7), .t 3], a37⟩
theorem ak37 : chkF Try.prog 37 af37 = true := by kernel_rfl

-- f38 fingerpost/acks.Bytes  boxes 1 notes []
def a38 : AC := .seq (.reg [⟨some 1, .box 0 7 (.t 0), none⟩,
      ⟨some 2, .cp (.c (.str [])), none⟩,
      ⟨some 3, .cp (.c (.int .i64 0)), none⟩]) (
  .seq (.seq (.reg [⟨some 5, .ld (some 7) (.t 1), none⟩,
      ⟨some 6, .call 45 [.t 5], none⟩,
      ⟨some 7, .un .not (.t 6), none⟩]) (
  .cond (.t 7) (
    .seq (.reg [⟨some 2, .cp (.c (.str [])), none⟩,
        ⟨some 3, .cp (.c (.int .i64 1)), none⟩]) (
    .ret)) (
    .skip))) (
  .seq (.drw [⟨some 8, .fa 0 (.t 1), none⟩,
      ⟨some 9, .ld none (.t 8), none⟩,
      ⟨some 10, .cv (.int .u64) (.t 9), none⟩,
      ⟨some 11, .call 100 [.t 10, .c (.int .i64 1)], none⟩,
      ⟨some 12, .fa 1 (.t 1), none⟩,
      ⟨some 13, .ld (some 4) (.t 12), none⟩,
      ⟨some 14, .call 79 [.t 13], none⟩,
      ⟨some 15, .bin .add (.t 11) (.t 14), none⟩,
      ⟨some 4, .cp (.t 15), none⟩] []) (
  .seq (.drw [⟨some 16, .cp (.t 4), none⟩,
      ⟨some 17, .fa 5 (.t 1), none⟩,
      ⟨some 18, .ld none (.t 17), none⟩,
      ⟨some 19, .cv (.int .u64) (.t 18), none⟩,
      ⟨some 20, .call 100 [.t 19, .c (.int .i64 2)], none⟩,
      ⟨some 21, .bin .add (.t 16) (.t 20), none⟩,
      ⟨some 22, .fa 6 (.t 1), none⟩,
      ⟨some 23, .ld none (.t 22), none⟩,
      ⟨some 24, .cv (.int .u64) (.t 23), none⟩,
      ⟨some 25, .call 100 [.t 24, .c (.int .i64 1)], none⟩,
      ⟨some 26, .bin .add (.t 21) (.t 25), none⟩,
      ⟨some 2, .cp (.t 26), none⟩,
      ⟨some 3, .cp (.c (.int .i64 0)), none⟩] []) (
  .ret))))
def af38 : AFn := ⟨27, 1, [.t 2, .t 3], a38⟩
theorem ak38 : chkF Try.prog 38 af38 = true := by kernel_rfl

-- f39 fingerpost/acks.Of  boxes 1 notes []
def a39_l0 : AC := .seq (.reg [⟨some 17, .bin .lss (.t 16) (.t 15), none⟩]) (
  .seq (.cond (.t 17) (
    .skip) (
    .exit 0)) (
  .seq (.block 1 (
    .seq (.reg [⟨some 18, .iaE 1 (.t 14) (.t 16), none⟩,
        ⟨some 19, .ld none (.t 18), none⟩,
        ⟨some 9, .cp (.t 19), none⟩]) (
    .seq (.reg [⟨some 20, .cp (.t 9), none⟩,
        ⟨some 21, .cp (.t 0), none⟩,
        ⟨some 22, .bin .geq (.t 20) (.t 21), none⟩,
        ⟨some 23, .cp (.t 22), none⟩,
        ⟨some 24, .cp (.t 9), some (23, true)⟩,
        ⟨some 25, .cp (.t 0), some (23, true)⟩,
        ⟨some 26, .bin .sub (.t 24) (.t 25), some (23, true)⟩,
        ⟨some 27, .bin .lss (.t 26) (.c (.int .i64 8)), some (23, true)⟩,
        ⟨some 28, .pick (.t 23) (.t 27) (.c (.bool false)), none⟩]) (
    .cond (.t 28) (
      .reg [⟨some 29, .cp (.t 6), none⟩,
          ⟨some 30, .cp (.t 9), none⟩,
          ⟨some 31, .cp (.t 0), none⟩,
          ⟨some 32, .bin .sub (.t 30) (.t 31), none⟩,
          ⟨some 33, .ia 1 (some 8) (.t 7) (.t 32), none⟩,
          ⟨some 34, .ldo (.t 33), none⟩,
          ⟨some 35, .bin .or (.t 29) (.t 34), none⟩,
          ⟨some 6, .cp (.t 35), none⟩]) (
      .skip))))) (
  .reg [⟨some 36, .bin .add (.t 16) (.c (.int .i64 1)), none⟩,
      ⟨some 16, .cp (.t 36), none⟩])))
def a39 : AC := .seq (.reg [⟨some 4, .cp (.c (.int .i64 0)), none⟩,
      ⟨some 5, .cp (.c (.int .i64 0)), none⟩]) (
  .seq (.seq (.reg [⟨some 10, .cp (.t 0), none⟩,
      ⟨some 11, .bin .lss (.t 10) (.c (.int .i64 0)), none⟩]) (
  .cond (.t 11) (
    .seq (.reg [⟨some 12, .cp (.t 0), none⟩,
        ⟨some 4, .cp (.t 12), none⟩,
        ⟨some 5, .cp (.c (.int .i64 0)), none⟩]) (
    .ret)) (
    .skip))) (
  .seq (.reg [⟨some 13, .call 104 [], none⟩,
      ⟨some 7, .alloc 0 8 [.int .i64 0, .int .i64 0, .int .i64 0, .int .i64 0, .int .i64 0, .int .i64 0, .int .i64 0, .int .i64 0], none⟩,
      ⟨some 6, .cp (.c (.int .i64 0)), none⟩,
      ⟨none, .st 8 (.t 7) (.t 13), none⟩]) (
  .seq (.seq (.reg [⟨some 14, .tk 1, none⟩,
      ⟨some 15, .len (.t 14), none⟩,
      ⟨some 16, .cp (.c (.int .i64 0)), none⟩]) (
  .block 0 (
    .loop [false, false, false, false, false, false, false, false, false, true, false, false, false, false, false, false, false, true, true, true, true, true, true, true, true, true, true, true, true, true, true, true, true, true, true, true, true] [] a39_l0))) (
  .seq (.reg [⟨some 37, .cp (.t 0), none⟩,
      ⟨some 38, .cp (.t 6), none⟩,
      ⟨some 4, .cp (.t 37), none⟩,
      ⟨some 5, .cp (.t 38), none⟩]) (
  .ret)))))
def af39 : AFn := ⟨39, 1, [.t 4, .t 5], a39⟩
theorem ak39 : chkF Try.prog 39 af39 = true := by kernel_rfl

-- f40 fingerpost/acks.Has  boxes 1 notes []
def a40 : AC := .seq (.reg [⟨some 2, .box 0 7 (.t 0), none⟩,
      ⟨some 4, .cp (.c (.bool false)), none⟩]) (
  .seq (.block 0 (
    .seq (.reg [⟨some 6, .cp (.t 1), none⟩,
        ⟨some 7, .fa 5 (.t 2), none⟩,
        ⟨some 8, .ld none (.t 7), none⟩,
        ⟨some 9, .bin .lss (.t 6) (.t 8), none⟩,
        ⟨some 5, .cp (.t 9), none⟩]) (
    .cond (.t 5) (
      .seq (.reg [⟨some 4, .cp (.c (.bool true)), none⟩]) (
      .ret)) (
      .seq (.seq (.reg [⟨some 11, .fa 5 (.t 2), none⟩,
          ⟨some 12, .ld none (.t 11), none⟩,
          ⟨some 13, .bin .lss (.t 12) (.c (.int .i64 0)), none⟩,
          ⟨some 10, .cp (.t 13), none⟩]) (
      .cond (.t 10) (
        .skip) (
        .seq (.reg [⟨some 14, .cp (.t 1), none⟩,
            ⟨some 15, .bin .gtr (.t 14) (.c (.int .i64 65535)), none⟩,
            ⟨some 10, .cp (.t 15), none⟩]) (
        .cond (.t 10) (
          .skip) (
          .drw [⟨some 16, .cp (.t 1), none⟩,
              ⟨some 17, .fa 5 (.t 2), none⟩,
              ⟨some 18, .ld none (.t 17), none⟩,
              ⟨some 19, .bin .sub (.t 16) (.t 18), none⟩,
              ⟨some 20, .call 104 [], none⟩,
              ⟨some 21, .cp (.c (.int .i64 8)), none⟩,
              ⟨some 22, .bin .geq (.t 19) (.t 21), none⟩,
              ⟨some 10, .cp (.t 22), none⟩] []))))) (
      .cond (.t 10) (
        .seq (.reg [⟨some 4, .cp (.c (.bool false)), none⟩]) (
        .ret)) (
        .skip)))))) (
  .seq (.drw [⟨some 23, .fa 6 (.t 2), none⟩,
      ⟨some 24, .ld none (.t 23), none⟩,
      ⟨some 25, .call 104 [], none⟩,
      ⟨some 26, .cp (.t 1), none⟩,
      ⟨some 27, .fa 5 (.t 2), none⟩,
      ⟨some 28, .ld none (.t 27), none⟩,
      ⟨some 29, .bin .sub (.t 26) (.t 28), none⟩,
      ⟨some 30, .ixA 8 (.t 25) (.t 29), none⟩,
      ⟨some 31, .bin .and (.t 24) (.t 30), none⟩,
      ⟨some 32, .bin .neq (.t 31) (.c (.int .i64 0)), none⟩,
      ⟨some 4, .cp (.t 32), none⟩] []) (
  .ret)))
def af40 : AFn := ⟨33, 1, [.t 4], a40⟩
theorem ak40 : chkF Try.prog 40 af40 = true := by kernel_rfl

-- f41 fingerpost/acks.Both  boxes 4 notes []
def a41 : AC := .seq (.reg [⟨some 2, .box 0 7 (.t 0), none⟩,
      ⟨some 3, .box 1 7 (.t 1), none⟩,
      ⟨some 4, .alloc 2 7 [.int .i64 0, .int .u32 0, .int .u32 0, .int .u32 0, .int .u32 0, .int .i64 0, .int .i64 0], none⟩]) (
  .seq (.reg [⟨some 6, .ld (some 7) (.t 2), none⟩,
      ⟨some 5, .alloc 3 7 [.int .i64 0, .int .u32 0, .int .u32 0, .int .u32 0, .int .u32 0, .int .i64 0, .int .i64 0], none⟩,
      ⟨none, .st 7 (.t 5) (.t 6), none⟩]) (
  .seq (.seq (.reg [⟨some 7, .fa 5 (.t 3), none⟩,
      ⟨some 8, .ld none (.t 7), none⟩,
      ⟨some 9, .fa 5 (.t 2), none⟩,
      ⟨some 10, .ld none (.t 9), none⟩,
      ⟨some 11, .bin .gtr (.t 8) (.t 10), none⟩]) (
  .cond (.t 11) (
    .reg [⟨some 12, .ld (some 7) (.t 3), none⟩,
        ⟨none, .st 7 (.t 5) (.t 12), none⟩]) (
    .skip))) (
  .seq (.drw [⟨some 14, .fa 5 (.t 5), none⟩,
      ⟨some 15, .ld none (.t 14), none⟩,
      ⟨some 16, .fa 5 (.t 5), none⟩,
      ⟨some 17, .ld none (.t 16), none⟩,
      ⟨some 18, .ld (some 7) (.t 2), none⟩,
      ⟨some 19, .ld (some 7) (.t 3), none⟩,
      ⟨some 20, .bs 7 [.t 18, .t 19], none⟩,
      ⟨some 21, .call 105 [.t 17, .t 20], none⟩,
      ⟨some 22, .call 39 [.t 15, .t 21], none⟩,
      ⟨some 13, .tk 22, none⟩,
      ⟨some 23, .ext (.t 13) 0, none⟩,
      ⟨some 24, .ext (.t 13) 1, none⟩,
      ⟨some 25, .fa 6 (.t 5), none⟩,
      ⟨none, .st 1 (.t 25) (.t 24), none⟩] []) (
  .seq (.reg [⟨some 26, .ld (some 7) (.t 5), none⟩,
      ⟨none, .st 7 (.t 4) (.t 26), none⟩]) (
  .ret)))))
def af41 : AFn := ⟨27, 4, [.c 4 (some 7)], a41⟩
theorem ak41 : chkF Try.prog 41 af41 = true := by kernel_rfl

-- f42 fingerpost/acks.Told  boxes 1 notes []
def a42 : AC := .seq (.reg [⟨some 1, .box 0 7 (.t 0), none⟩,
      ⟨some 2, .cp (.c (.sl .own 1 [])), none⟩]) (
  .seq (.reg [⟨some 3, .fa 5 (.t 1), none⟩,
      ⟨some 4, .ld none (.t 3), none⟩,
      ⟨some 5, .ld (some 7) (.t 1), none⟩,
      ⟨some 6, .bs 7 [.t 5], none⟩,
      ⟨some 7, .call 105 [.t 4, .t 6], none⟩,
      ⟨some 2, .tk 7, none⟩]) (
  .ret))
def af42 : AFn := ⟨8, 1, [.t 2], a42⟩
theorem ak42 : chkF Try.prog 42 af42 = true := by kernel_rfl

-- f43 fingerpost/fingerpostref09.Told  boxes 1 notes []
def a43_l0 : AC := .seq (.reg [⟨some 6, .bin .lss (.t 5) (.c (.int .i64 8)), none⟩]) (
  .seq (.cond (.t 6) (
    .skip) (
    .exit 0)) (
  .seq (.block 1 (
    .seq (.reg [⟨some 7, .cp (.t 5), none⟩,
        ⟨some 4, .cp (.t 7), none⟩]) (
    .seq (.reg [⟨some 8, .fa 5 (.t 1), none⟩,
        ⟨some 9, .ld none (.t 8), none⟩,
        ⟨some 10, .bin .geq (.t 9) (.c (.int .i64 0)), none⟩,
        ⟨some 11, .cp (.t 10), none⟩,
        ⟨some 12, .fa 5 (.t 1), some (11, true)⟩,
        ⟨some 13, .ld none (.t 12), some (11, true)⟩,
        ⟨some 14, .bin .leq (.t 13) (.c (.int .i64 65535)), some (11, true)⟩,
        ⟨some 15, .pick (.t 11) (.t 14) (.c (.bool false)), none⟩,
        ⟨some 16, .cp (.t 15), none⟩,
        ⟨some 17, .ld (some 7) (.t 1), some (16, true)⟩,
        ⟨some 18, .fa 5 (.t 1), some (16, true)⟩,
        ⟨some 19, .ld none (.t 18), some (16, true)⟩,
        ⟨some 20, .cp (.t 4), some (16, true)⟩,
        ⟨some 21, .bin .add (.t 19) (.t 20), some (16, true)⟩,
        ⟨some 22, .call 106 [.t 17, .t 21], some (16, true)⟩,
        ⟨some 23, .pick (.t 16) (.t 22) (.c (.bool false)), none⟩]) (
    .cond (.t 23) (
      .reg [⟨some 24, .tk 3, none⟩,
          ⟨some 25, .fa 5 (.t 1), none⟩,
          ⟨some 26, .ld none (.t 25), none⟩,
          ⟨some 27, .cp (.t 4), none⟩,
          ⟨some 28, .bin .add (.t 26) (.t 27), none⟩,
          ⟨some 29, .bs 1 [.t 28], none⟩,
          ⟨some 30, .app 1 8 (.t 24) (.t 29), none⟩,
          ⟨some 3, .tk 30, none⟩]) (
      .skip))))) (
  .reg [⟨some 31, .bin .add (.t 5) (.c (.int .i64 1)), none⟩,
      ⟨some 5, .cp (.t 31), none⟩])))
def a43 : AC := .seq (.reg [⟨some 1, .box 0 7 (.t 0), none⟩,
      ⟨some 2, .cp (.c (.sl .own 1 [])), none⟩]) (
  .seq (.reg [⟨some 3, .cp (.c (.sl .own 1 [])), none⟩]) (
  .seq (.seq (.reg [⟨some 5, .cp (.c (.int .i64 0)), none⟩]) (
  .block 0 (
    .loop [false, false, false, false, true, false, true, true, true, true, true, true, true, true, true, true, true, true, true, true, true, true, true, true, true, true, true, true, true, true, true, true] [] a43_l0))) (
  .seq (.reg [⟨some 32, .tk 3, none⟩,
      ⟨some 2, .tk 32, none⟩]) (
  .ret))))
def af43 : AFn := ⟨33, 1, [.t 2], a43⟩
theorem ak43 : chkF Try.prog 43 af43 = true := by kernel_rfl

-- f44 fingerpost/fingerpostref09.Both  boxes 3 notes []
def a44_l0 : AC := .seq (.reg [⟨some 15, .bin .lss (.t 14) (.c (.int .i64 8)), none⟩]) (
  .seq (.cond (.t 15) (
    .skip) (
    .exit 0)) (
  .seq (.block 1 (
    .seq (.reg [⟨some 16, .cp (.t 14), none⟩,
        ⟨some 6, .cp (.t 16), none⟩]) (
    .seq (.reg [⟨some 17, .ld (some 7) (.t 3), none⟩,
        ⟨some 18, .fa 5 (.t 2), none⟩,
        ⟨some 19, .ld none (.t 18), none⟩,
        ⟨some 20, .cp (.t 6), none⟩,
        ⟨some 21, .bin .add (.t 19) (.t 20), none⟩,
        ⟨some 22, .call 106 [.t 17, .t 21], none⟩,
        ⟨some 23, .cp (.t 22), none⟩,
        ⟨some 24, .fa 5 (.t 2), some (23, true)⟩,
        ⟨some 25, .ld none (.t 24), some (23, true)⟩,
        ⟨some 26, .bin .geq (.t 25) (.c (.int .i64 0)), some (23, true)⟩,
        ⟨some 27, .pick (.t 23) (.t 26) (.c (.bool false)), none⟩,
        ⟨some 28, .cp (.t 27), none⟩,
        ⟨some 29, .fa 5 (.t 2), some (28, true)⟩,
        ⟨some 30, .ld none (.t 29), some (28, true)⟩,
        ⟨some 31, .bin .leq (.t 30) (.c (.int .i64 65535)), some (28, true)⟩,
        ⟨some 32, .pick (.t 28) (.t 31) (.c (.bool false)), none⟩,
        ⟨some 33, .cp (.t 32), none⟩,
        ⟨some 34, .ld (some 7) (.t 2), some (33, false)⟩,
        ⟨some 35, .fa 5 (.t 2), some (33, false)⟩,
        ⟨some 36, .ld none (.t 35), some (33, false)⟩,
        ⟨some 37, .cp (.t 6), some (33, false)⟩,
        ⟨some 38, .bin .add (.t 36) (.t 37), some (33, false)⟩,
        ⟨some 39, .call 106 [.t 34, .t 38], some (33, false)⟩,
        ⟨some 40, .cp (.t 39), some (33, false)⟩,
        ⟨some 41, .fa 5 (.t 2), some (40, true)⟩,
        ⟨some 42, .ld none (.t 41), some (40, true)⟩,
        ⟨some 43, .bin .geq (.t 42) (.c (.int .i64 0)), some (40, true)⟩,
        ⟨some 44, .pick (.t 40) (.t 43) (.c (.bool false)), some (33, false)⟩,
        ⟨some 45, .cp (.t 44), some (33, false)⟩,
        ⟨some 46, .fa 5 (.t 2), some (45, true)⟩,
        ⟨some 47, .ld none (.t 46), some (45, true)⟩,
        ⟨some 48, .bin .leq (.t 47) (.c (.int .i64 65535)), some (45, true)⟩,
        ⟨some 49, .pick (.t 45) (.t 48) (.c (.bool false)), some (33, false)⟩,
        ⟨some 50, .pick (.t 33) (.c (.bool true)) (.t 49), none⟩]) (
    .cond (.t 50) (
      .reg [⟨some 51, .tk 5, none⟩,
          ⟨some 52, .fa 5 (.t 2), none⟩,
          ⟨some 53, .ld none (.t 52), none⟩,
          ⟨some 54, .cp (.t 6), none⟩,
          ⟨some 55, .bin .add (.t 53) (.t 54), none⟩,
          ⟨some 56, .bs 1 [.t 55], none⟩,
          ⟨some 57, .app 1 8 (.t 51) (.t 56), none⟩,
          ⟨some 5, .tk 57, none⟩]) (
      .skip))))) (
  .reg [⟨some 58, .bin .add (.t 14) (.c (.int .i64 1)), none⟩,
      ⟨some 14, .cp (.t 58), none⟩])))
def a44 : AC := .seq (.reg [⟨some 2, .box 0 7 (.t 0), none⟩,
      ⟨some 3, .box 1 7 (.t 1), none⟩,
      ⟨some 4, .alloc 2 7 [.int .i64 0, .int .u32 0, .int .u32 0, .int .u32 0, .int .u32 0, .int .i64 0, .int .i64 0], none⟩]) (
  .seq (.seq (.reg [⟨some 7, .fa 5 (.t 3), none⟩,
      ⟨some 8, .ld none (.t 7), none⟩,
      ⟨some 9, .fa 5 (.t 2), none⟩,
      ⟨some 10, .ld none (.t 9), none⟩,
      ⟨some 11, .bin .gtr (.t 8) (.t 10), none⟩]) (
  .cond (.t 11) (
    .reg [⟨some 12, .ld (some 7) (.t 3), none⟩,
        ⟨some 13, .ld (some 7) (.t 2), none⟩,
        ⟨none, .st 7 (.t 2) (.t 12), none⟩,
        ⟨none, .st 7 (.t 3) (.t 13), none⟩]) (
    .skip))) (
  .seq (.reg [⟨some 5, .cp (.c (.sl .own 1 [])), none⟩]) (
  .seq (.seq (.reg [⟨some 14, .cp (.c (.int .i64 0)), none⟩]) (
  .block 0 (
    .loop [false, false, false, false, false, false, true, false, false, false, false, false, false, false, false, true, true, true, true, true, true, true, true, true, true, true, true, true, true, true, true, true, true, true, true, true, true, true, true, true, true, true, true, true, true, true, true, true, true, true, true, true, true, true, true, true, true, true, true] [] a44_l0))) (
  .seq (.reg [⟨some 60, .fa 5 (.t 2), none⟩,
      ⟨some 61, .ld none (.t 60), none⟩,
      ⟨some 62, .tk 5, none⟩,
      ⟨some 63, .call 107 [.t 61, .t 62], none⟩,
      ⟨some 59, .tk 63, none⟩,
      ⟨some 64, .ext (.t 59) 0, none⟩,
      ⟨some 65, .ext (.t 59) 1, none⟩,
      ⟨some 66, .fa 6 (.t 2), none⟩,
      ⟨none, .st 1 (.t 66) (.t 65), none⟩]) (
  .seq (.reg [⟨some 67, .ld (some 7) (.t 2), none⟩,
      ⟨none, .st 7 (.t 4) (.t 67), none⟩]) (
  .ret))))))
def af44 : AFn := ⟨68, 3, [.c 4 (some 7)], a44⟩
theorem ak44 : chkF Try.prog 44 af44 = true := by kernel_rfl

-- f45 fingerpost/acks.Right  boxes 1 notes []
def a45 : AC := .seq (.reg [⟨some 1, .box 0 7 (.t 0), none⟩,
      ⟨some 2, .cp (.c (.bool false)), none⟩]) (
  .seq (.reg [⟨some 3, .fa 0 (.t 1), none⟩,
      ⟨some 4, .ld none (.t 3), none⟩,
      ⟨some 5, .call 88 [.t 4], none⟩,
      ⟨some 6, .cp (.t 5), none⟩,
      ⟨some 7, .fa 5 (.t 1), some (6, true)⟩,
      ⟨some 8, .ld none (.t 7), some (6, true)⟩,
      ⟨some 9, .call 108 [.t 8], some (6, true)⟩,
      ⟨some 10, .pick (.t 6) (.t 9) (.c (.bool false)), none⟩,
      ⟨some 11, .cp (.t 10), none⟩,
      ⟨some 12, .fa 6 (.t 1), some (11, true)⟩,
      ⟨some 13, .ld none (.t 12), some (11, true)⟩,
      ⟨some 14, .bin .geq (.t 13) (.c (.int .i64 0)), some (11, true)⟩,
      ⟨some 15, .pick (.t 11) (.t 14) (.c (.bool false)), none⟩,
      ⟨some 16, .cp (.t 15), none⟩,
      ⟨some 17, .fa 6 (.t 1), some (16, true)⟩,
      ⟨some 18, .ld none (.t 17), some (16, true)⟩,
      ⟨some 19, .bin .leq (.t 18) (.c (.int .i64 255)), some (16, true)⟩,
      ⟨some 20, .pick (.t 16) (.t 19) (.c (.bool false)), none⟩,
      ⟨some 2, .cp (.t 20), none⟩]) (
  .ret))
def af45 : AFn := ⟨21, 1, [.t 2], a45⟩
theorem ak45 : chkF Try.prog 45 af45 = true := by kernel_rfl

-- f104 fingerpost/acks.bit  boxes 1 notes []
def a104 : AC := .seq (.reg [⟨some 0, .alloc 0 8 [.int .i64 0, .int .i64 0, .int .i64 0, .int .i64 0, .int .i64 0, .int .i64 0, .int .i64 0, .int .i64 0], none⟩]) (
  .seq (.reg [⟨some 1, .bld [.int .i64 0, .int .i64 0, .int .i64 0, .int .i64 0, .int .i64 0, .int .i64 0, .int .i64 0, .int .i64 0] [(0, 1, .c (.int .i64 1)), (1, 1, .c (.int .i64 2)), (2, 1, .c (.int .i64 4)), (3, 1, .c (.int .i64 8)), (4, 1, .c (.int .i64 16)), (5, 1, .c (.int .i64 32)), (6, 1, .c (.int .i64 64)), (7, 1, .c (.int .i64 128))], none⟩,
      ⟨none, .st 8 (.t 0) (.t 1), none⟩]) (
  .ret))
def af104 : AFn := ⟨2, 1, [.c 0 (some 8)], a104⟩
theorem ak104 : chkF Try.prog 104 af104 = true := by kernel_rfl

-- f105 fingerpost/acks.told  boxes 1 notes []
def a105_l1 : AC := .seq (.reg [⟨some 19, .bin .lss (.t 18) (.t 17), none⟩]) (
  .seq (.cond (.t 19) (
    .skip) (
    .exit 2)) (
  .seq (.block 3 (
    .seq (.reg [⟨some 20, .iaE 7 (.t 16) (.t 18), none⟩,
        ⟨some 21, .ld (some 7) (.t 20), none⟩,
        ⟨some 8, .alloc 0 7 [.int .i64 0, .int .u32 0, .int .u32 0, .int .u32 0, .int .u32 0, .int .i64 0, .int .i64 0], none⟩,
        ⟨none, .st 7 (.t 8) (.t 21), none⟩]) (
    .seq (.reg [⟨some 22, .ld (some 7) (.t 8), none⟩,
        ⟨some 23, .cp (.t 0), none⟩,
        ⟨some 24, .cp (.t 6), none⟩,
        ⟨some 25, .bin .add (.t 23) (.t 24), none⟩,
        ⟨some 26, .call 40 [.t 22, .t 25], none⟩]) (
    .cond (.t 26) (
      .seq (.reg [⟨some 27, .tk 5, none⟩,
          ⟨some 28, .cp (.t 0), none⟩,
          ⟨some 29, .cp (.t 6), none⟩,
          ⟨some 30, .bin .add (.t 28) (.t 29), none⟩,
          ⟨some 31, .bs 1 [.t 30], none⟩,
          ⟨some 32, .app 1 8 (.t 27) (.t 31), none⟩,
          ⟨some 5, .tk 32, none⟩]) (
      .exit 2)) (
      .skip))))) (
  .reg [⟨some 33, .bin .add (.t 18) (.c (.int .i64 1)), none⟩,
      ⟨some 18, .cp (.t 33), none⟩])))
def a105_l0 : AC := .seq (.reg [⟨some 14, .bin .lss (.t 13) (.c (.int .i64 8)), none⟩]) (
  .seq (.cond (.t 14) (
    .skip) (
    .exit 0)) (
  .seq (.block 1 (
    .seq (.reg [⟨some 15, .cp (.t 13), none⟩,
        ⟨some 6, .cp (.t 15), none⟩]) (
    .seq (.reg [⟨some 16, .cp (.t 1), none⟩,
        ⟨some 17, .len (.t 16), none⟩,
        ⟨some 18, .cp (.c (.int .i64 0)), none⟩]) (
    .block 2 (
      .loop [false, false, false, false, false, false, false, false, true, false, false, false, false, false, false, false, false, false, false, true, true, true, true, true, true, true, true, true, true, true, true, true, true, true] [0] a105_l1))))) (
  .reg [⟨some 34, .bin .add (.t 13) (.c (.int .i64 1)), none⟩,
      ⟨some 13, .cp (.t 34), none⟩])))
def a105 : AC := .seq (.reg [⟨some 4, .cp (.c (.sl .own 1 [])), none⟩]) (
  .seq (.seq (.reg [⟨some 9, .cp (.t 0), none⟩,
      ⟨some 10, .call 108 [.t 9], none⟩,
      ⟨some 11, .un .not (.t 10), none⟩]) (
  .cond (.t 11) (
    .seq (.reg [⟨some 4, .cp (.c (.sl .own 1 [])), none⟩]) (
    .ret)) (
    .skip))) (
  .seq (.reg [⟨some 5, .cp (.c (.sl .own 1 [])), none⟩]) (
  .seq (.seq (.reg [⟨some 12, .call 104 [], none⟩,
      ⟨some 13, .cp (.c (.int .i64 0)), none⟩]) (
  .block 0 (
    .loop [false, false, false, false, false, false, true, false, true, false, false, false, false, false, true, true, true, true, true, true, true, true, true, true, true, true, true, true, true, true, true, true, true, true, true] [0] a105_l0))) (
  .seq (.reg [⟨some 35, .tk 5, none⟩,
      ⟨some 4, .tk 35, none⟩]) (
  .ret)))))
def af105 : AFn := ⟨36, 1, [.t 4], a105⟩
theorem ak105 : chkF Try.prog 105 af105 = true := by kernel_rfl

-- f106 fingerpost/fingerpostref09.Has  boxes 1 notes []
def a106 : AC := .seq (.reg [⟨some 2, .box 0 7 (.t 0), none⟩,
      ⟨some 4, .cp (.c (.bool false)), none⟩]) (
  .seq (.seq (.reg [⟨some 5, .cp (.t 1), none⟩,
      ⟨some 6, .fa 5 (.t 2), none⟩,
      ⟨some 7, .ld none (.t 6), none⟩,
      ⟨some 8, .bin .lss (.t 5) (.t 7), none⟩]) (
  .cond (.t 8) (
    .seq (.reg [⟨some 4, .cp (.c (.bool true)), none⟩]) (
    .ret)) (
    .skip))) (
  .seq (.seq (.reg [⟨some 9, .fa 5 (.t 2), none⟩,
      ⟨some 10, .ld none (.t 9), none⟩,
      ⟨some 11, .bin .lss (.t 10) (.c (.int .i64 0)), none⟩,
      ⟨some 12, .cp (.t 11), none⟩,
      ⟨some 13, .cp (.t 1), some (12, false)⟩,
      ⟨some 14, .bin .gtr (.t 13) (.c (.int .i64 65535)), some (12, false)⟩,
      ⟨some 15, .pick (.t 12) (.c (.bool true)) (.t 14), none⟩,
      ⟨some 16, .cp (.t 15), none⟩,
      ⟨some 17, .cp (.t 1), some (16, false)⟩,
      ⟨some 18, .fa 5 (.t 2), some (16, false)⟩,
      ⟨some 19, .ld none (.t 18), some (16, false)⟩,
      ⟨some 20, .bin .sub (.t 17) (.t 19), some (16, false)⟩,
      ⟨some 21, .bin .gtr (.t 20) (.c (.int .i64 7)), some (16, false)⟩,
      ⟨some 22, .pick (.t 16) (.c (.bool true)) (.t 21), none⟩]) (
  .cond (.t 22) (
    .seq (.reg [⟨some 4, .cp (.c (.bool false)), none⟩]) (
    .ret)) (
    .skip))) (
  .seq (.reg [⟨some 23, .fa 6 (.t 2), none⟩,
      ⟨some 24, .ld none (.t 23), none⟩,
      ⟨some 25, .cp (.t 1), none⟩,
      ⟨some 26, .fa 5 (.t 2), none⟩,
      ⟨some 27, .ld none (.t 26), none⟩,
      ⟨some 28, .bin .sub (.t 25) (.t 27), none⟩,
      ⟨some 29, .cv (.int .u64) (.t 28), none⟩,
      ⟨some 30, .bin .shr (.t 24) (.t 29), none⟩,
      ⟨some 31, .bin .and (.t 30) (.c (.int .i64 1)), none⟩,
      ⟨some 32, .bin .eql (.t 31) (.c (.int .i64 1)), none⟩,
      ⟨some 4, .cp (.t 32), none⟩]) (
  .ret))))
def af106 : AFn := ⟨33, 1, [.t 4], a106⟩
theorem ak106 : chkF Try.prog 106 af106 = true := by kernel_rfl

-- f107 fingerpost/fingerpostref09.Of  boxes 0 notes []
def a107_l0 : AC := .seq (.reg [⟨some 12, .bin .lss (.t 11) (.t 10), none⟩]) (
  .seq (.cond (.t 12) (
    .skip) (
    .exit 0)) (
  .seq (.block 1 (
    .seq (.reg [⟨some 13, .iaE 1 (.t 9) (.t 11), none⟩,
        ⟨some 14, .ld none (.t 13), none⟩,
        ⟨some 8, .cp (.t 14), none⟩]) (
    .seq (.reg [⟨some 15, .cp (.t 8), none⟩,
        ⟨some 16, .cp (.t 0), none⟩,
        ⟨some 17, .bin .geq (.t 15) (.t 16), none⟩,
        ⟨some 18, .cp (.t 17), none⟩,
        ⟨some 19, .cp (.t 0), some (18, true)⟩,
        ⟨some 20, .bin .geq (.t 19) (.c (.int .i64 0)), some (18, true)⟩,
        ⟨some 21, .pick (.t 18) (.t 20) (.c (.bool false)), none⟩,
        ⟨some 22, .cp (.t 21), none⟩,
        ⟨some 23, .cp (.t 8), some (22, true)⟩,
        ⟨some 24, .cp (.t 0), some (22, true)⟩,
        ⟨some 25, .bin .sub (.t 23) (.t 24), some (22, true)⟩,
        ⟨some 26, .bin .leq (.t 25) (.c (.int .i64 7)), some (22, true)⟩,
        ⟨some 27, .pick (.t 22) (.t 26) (.c (.bool false)), none⟩]) (
    .cond (.t 27) (
      .reg [⟨some 28, .cp (.t 6), none⟩,
          ⟨some 29, .cp (.t 8), none⟩,
          ⟨some 30, .cp (.t 0), none⟩,
          ⟨some 31, .bin .sub (.t 29) (.t 30), none⟩,
          ⟨some 32, .cv (.int .u64) (.t 31), none⟩,
          ⟨some 33, .bin .shl (.c (.int .i64 1)) (.t 32), none⟩,
          ⟨some 34, .bin .or (.t 28) (.t 33), none⟩,
          ⟨some 6, .cp (.t 34), none⟩]) (
      .skip))))) (
  .reg [⟨some 35, .bin .add (.t 11) (.c (.int .i64 1)), none⟩,
      ⟨some 11, .cp (.t 35), none⟩])))
def a107 : AC := .seq (.reg [⟨some 4, .cp (.c (.int .i64 0)), none⟩,
      ⟨some 5, .cp (.c (.int .i64 0)), none⟩]) (
  .seq (.reg [⟨some 6, .cp (.c (.int .i64 0)), none⟩]) (
  .seq (.seq (.reg [⟨some 9, .tk 1, none⟩,
      ⟨some 10, .len (.t 9), none⟩,
      ⟨some 11, .cp (.c (.int .i64 0)), none⟩]) (
  .block 0 (
    .loop [false, false, false, false, false, false, false, false, true, false, false, false, true, true, true, true, true, true, true, true, true, true, true, true, true, true, true, true, true, true, true, true, true, true, true, true] [] a107_l0))) (
  .seq (.reg [⟨some 36, .cp (.t 0), none⟩,
      ⟨some 37, .cp (.t 6), none⟩,
      ⟨some 4, .cp (.t 36), none⟩,
      ⟨some 5, .cp (.t 37), none⟩]) (
  .ret))))
def af107 : AFn := ⟨38, 0, [.t 4, .t 5], a107⟩
theorem ak107 : chkF Try.prog 107 af107 = true := by kernel_rfl

-- f108 fingerpost/acks.near  boxes 0 notes []
def a108 : AC := .seq (.reg [⟨some 2, .cp (.c (.bool false)), none⟩]) (
  .seq (.reg [⟨some 3, .cp (.t 0), none⟩,
      ⟨some 4, .bin .geq (.t 3) (.c (.int .i64 0)), none⟩,
      ⟨some 5, .cp (.t 4), none⟩,
      ⟨some 6, .cp (.t 0), some (5, true)⟩,
      ⟨some 7, .bin .leq (.t 6) (.c (.int .i64 65535)), some (5, true)⟩,
      ⟨some 8, .pick (.t 5) (.t 7) (.c (.bool false)), none⟩,
      ⟨some 2, .cp (.t 8), none⟩]) (
  .ret))
def af108 : AFn := ⟨9, 0, [.t 2], a108⟩
theorem ak108 : chkF Try.prog 108 af108 = true := by kernel_rfl

end Go.Proofs.Ytkcdeefnkbbacaa

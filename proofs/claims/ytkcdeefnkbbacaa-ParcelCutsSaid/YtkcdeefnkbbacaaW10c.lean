/- The functions as data, and that they are the program's. -/
import Derived.Test.YtkcdeefnkbbacaaAwN
set_option maxRecDepth 100000
namespace Go.Proofs.Ytkcdeefnkbbacaa
open Go.RowKit
-- f9 fingerpost/fingerpostlaw10.ParcelBack  boxes 4 notes []
def a9_l0 : AC := .seq (.seq (.reg [⟨some 46, .cp (.t 10), none⟩,
      ⟨some 47, .bin .lss (.t 46) (.c (.int .i64 70)), none⟩]) (
  .cond (.t 47) (
    .skip) (
    .exit 0))) (
  .seq (.block 1 (
    .seq (.reg [⟨some 51, .ld (some 9) (.t 7), none⟩,
        ⟨some 52, .fa 1 (.t 2), none⟩,
        ⟨some 53, .ld (some 4) (.t 52), none⟩,
        ⟨some 54, .call 49 [.t 51, .c (.int .i64 1), .t 53], none⟩,
        ⟨some 50, .tk 54, none⟩,
        ⟨some 55, .ext (.t 50) 0, none⟩,
        ⟨some 56, .ext (.t 50) 1, none⟩,
        ⟨some 11, .alloc 2 9 [.int .i64 0, .int .u32 0, .int .u32 0, .int .u32 0, .int .u32 0, .int .i64 0, .int .i64 0, .int .i64 0, .str []], none⟩,
        ⟨none, .st 9 (.t 11) (.t 55), none⟩,
        ⟨some 12, .cp (.t 56), none⟩]) (
    .seq (.seq (.reg [⟨some 57, .cp (.t 12), none⟩,
        ⟨some 58, .un .not (.t 57), none⟩]) (
    .cond (.t 58) (
      .exit 0) (
      .skip))) (
    .seq (.seq (.reg [⟨some 59, .fa 8 (.t 11), none⟩,
        ⟨some 60, .ld none (.t 59), none⟩,
        ⟨some 61, .fa 8 (.t 2), none⟩,
        ⟨some 62, .ld none (.t 61), none⟩,
        ⟨some 63, .bin .neq (.t 60) (.t 62), none⟩,
        ⟨some 64, .cp (.t 63), none⟩,
        ⟨some 65, .fa 5 (.t 11), some (64, false)⟩,
        ⟨some 66, .ld none (.t 65), some (64, false)⟩,
        ⟨some 67, .fa 5 (.t 2), some (64, false)⟩,
        ⟨some 68, .ld none (.t 67), some (64, false)⟩,
        ⟨some 69, .bin .neq (.t 66) (.t 68), some (64, false)⟩,
        ⟨some 70, .pick (.t 64) (.c (.bool true)) (.t 69), none⟩,
        ⟨some 71, .cp (.t 70), none⟩,
        ⟨some 72, .fa 6 (.t 11), some (71, false)⟩,
        ⟨some 73, .ld none (.t 72), some (71, false)⟩,
        ⟨some 74, .fa 6 (.t 2), some (71, false)⟩,
        ⟨some 75, .ld none (.t 74), some (71, false)⟩,
        ⟨some 76, .bin .neq (.t 73) (.t 75), some (71, false)⟩,
        ⟨some 77, .pick (.t 71) (.c (.bool true)) (.t 76), none⟩]) (
    .cond (.t 77) (
      .seq (.reg [⟨some 4, .cp (.c (.bool false)), none⟩]) (
      .ret)) (
      .skip))) (
    .seq (.reg [⟨some 78, .ld (some 9) (.t 11), none⟩,
        ⟨none, .st 9 (.t 7) (.t 78), none⟩]) (
    .reg [⟨some 79, .cp (.t 9), none⟩,
        ⟨some 80, .bin .add (.t 79) (.c (.int .i64 1)), none⟩,
        ⟨some 9, .cp (.t 80), none⟩])))))) (
  .reg [⟨some 48, .cp (.t 10), none⟩,
      ⟨some 49, .bin .add (.t 48) (.c (.int .i64 1)), none⟩,
      ⟨some 10, .cp (.t 49), none⟩]))
def a9 : AC := .seq (.reg [⟨some 2, .box 0 9 (.t 0), none⟩,
      ⟨some 4, .cp (.c (.bool false)), none⟩]) (
  .seq (.seq (.reg [⟨some 17, .fa 8 (.t 2), none⟩,
      ⟨some 18, .ld none (.t 17), none⟩,
      ⟨some 19, .lenS (.t 18), none⟩,
      ⟨some 20, .bin .gtr (.t 19) (.c (.int .i64 500)), none⟩,
      ⟨some 21, .cp (.t 20), none⟩,
      ⟨some 22, .cp (.t 1), some (21, false)⟩,
      ⟨some 23, .lenS (.t 22), some (21, false)⟩,
      ⟨some 24, .bin .gtr (.t 23) (.c (.int .i64 500)), some (21, false)⟩,
      ⟨some 25, .pick (.t 21) (.c (.bool true)) (.t 24), none⟩]) (
  .cond (.t 25) (
    .seq (.reg [⟨some 26, .call 46 [], none⟩,
        ⟨some 4, .cp (.t 26), none⟩]) (
    .ret)) (
    .skip))) (
  .seq (.seq (.reg [⟨some 28, .ld (some 9) (.t 2), none⟩,
      ⟨some 29, .call 47 [.t 28], none⟩,
      ⟨some 27, .tk 29, none⟩,
      ⟨some 30, .ext (.t 27) 0, none⟩,
      ⟨some 31, .ext (.t 27) 1, none⟩,
      ⟨some 5, .cp (.t 30), none⟩,
      ⟨some 6, .cp (.t 31), none⟩]) (
  .seq (.reg [⟨some 32, .cp (.t 6), none⟩,
      ⟨some 33, .bin .eql (.t 32) (.c (.int .i64 0)), none⟩]) (
  .cond (.t 33) (
    .seq (.reg [⟨some 35, .cp (.t 5), none⟩,
        ⟨some 36, .call 48 [.t 35], none⟩,
        ⟨some 34, .tk 36, none⟩,
        ⟨some 37, .ext (.t 34) 0, none⟩,
        ⟨some 38, .ext (.t 34) 1, none⟩,
        ⟨some 7, .alloc 1 9 [.int .i64 0, .int .u32 0, .int .u32 0, .int .u32 0, .int .u32 0, .int .i64 0, .int .i64 0, .int .i64 0, .str []], none⟩,
        ⟨none, .st 9 (.t 7) (.t 37), none⟩,
        ⟨some 8, .cp (.t 38), none⟩]) (
    .seq (.seq (.reg [⟨some 39, .cp (.t 8), none⟩,
        ⟨some 40, .bin .neq (.t 39) (.c (.int .i64 0)), none⟩,
        ⟨some 41, .cp (.t 40), none⟩,
        ⟨some 42, .ld (some 9) (.t 7), some (41, false)⟩,
        ⟨some 43, .ld (some 9) (.t 2), some (41, false)⟩,
        ⟨some 44, .eqA true [.i, .i, .i, .i, .i, .i, .i, .i, .s] (.t 42) (.t 43), some (41, false)⟩,
        ⟨some 45, .pick (.t 41) (.c (.bool true)) (.t 44), none⟩]) (
    .cond (.t 45) (
      .seq (.reg [⟨some 4, .cp (.c (.bool false)), none⟩]) (
      .ret)) (
      .skip))) (
    .seq (.reg [⟨some 9, .cp (.c (.int .i64 0)), none⟩]) (
    .seq (.seq (.reg [⟨some 10, .cp (.c (.int .i64 0)), none⟩]) (
    .block 0 (
      .loop [false, false, false, false, true, false, false, false, false, false, false, true, true, false, false, false, false, false, false, false, false, false, false, false, false, false, false, false, false, false, false, false, false, false, false, false, false, false, false, false, false, false, false, false, false, false, true, true, true, true, true, true, true, true, true, true, true, true, true, true, true, true, true, true, true, true, true, true, true, true, true, true, true, true, true, true, true, true, true, true, true] [2] a9_l0))) (
    .seq (.reg [⟨some 81, .cp (.t 9), none⟩,
        ⟨some 82, .fa 7 (.t 2), none⟩,
        ⟨some 83, .ld none (.t 82), none⟩,
        ⟨some 84, .bin .sub (.t 83) (.c (.int .i64 1)), none⟩,
        ⟨some 85, .bin .neq (.t 81) (.t 84), none⟩]) (
    .cond (.t 85) (
      .seq (.reg [⟨some 4, .cp (.c (.bool false)), none⟩]) (
      .ret)) (
      .skip))))))) (
    .skip)))) (
  .seq (.seq (.reg [⟨some 87, .cp (.t 1), none⟩,
      ⟨some 88, .call 48 [.t 87], none⟩,
      ⟨some 86, .tk 88, none⟩,
      ⟨some 89, .ext (.t 86) 0, none⟩,
      ⟨some 90, .ext (.t 86) 1, none⟩,
      ⟨some 13, .alloc 3 9 [.int .i64 0, .int .u32 0, .int .u32 0, .int .u32 0, .int .u32 0, .int .i64 0, .int .i64 0, .int .i64 0, .str []], none⟩,
      ⟨none, .st 9 (.t 13) (.t 89), none⟩,
      ⟨some 14, .cp (.t 90), none⟩]) (
  .seq (.reg [⟨some 91, .cp (.t 14), none⟩,
      ⟨some 92, .bin .eql (.t 91) (.c (.int .i64 0)), none⟩]) (
  .cond (.t 92) (
    .seq (.reg [⟨some 94, .ld (some 9) (.t 13), none⟩,
        ⟨some 95, .call 47 [.t 94], none⟩,
        ⟨some 93, .tk 95, none⟩,
        ⟨some 96, .ext (.t 93) 0, none⟩,
        ⟨some 97, .ext (.t 93) 1, none⟩,
        ⟨some 15, .cp (.t 96), none⟩,
        ⟨some 16, .cp (.t 97), none⟩]) (
    .seq (.reg [⟨some 98, .cp (.t 16), none⟩,
        ⟨some 99, .bin .eql (.t 98) (.c (.int .i64 0)), none⟩,
        ⟨some 100, .cp (.t 99), none⟩,
        ⟨some 101, .cp (.t 15), some (100, true)⟩,
        ⟨some 102, .cp (.t 1), some (100, true)⟩,
        ⟨some 103, .bin .eql (.t 101) (.t 102), some (100, true)⟩,
        ⟨some 104, .pick (.t 100) (.t 103) (.c (.bool false)), none⟩,
        ⟨some 105, .cp (.t 104), none⟩,
        ⟨some 106, .call 46 [], some (105, true)⟩,
        ⟨some 107, .pick (.t 105) (.t 106) (.c (.bool false)), none⟩,
        ⟨some 4, .cp (.t 107), none⟩]) (
    .ret))) (
    .skip)))) (
  .seq (.reg [⟨some 108, .call 46 [], none⟩,
      ⟨some 4, .cp (.t 108), none⟩]) (
  .ret)))))
def af9 : AFn := ⟨109, 4, [.t 4], a9⟩
theorem ak9 : chkF Try.prog 9 af9 = true := by kernel_rfl

-- f10 fingerpost/fingerpostlaw10.ParcelCuts  boxes 2 notes []
def a10_l0 : AC := .seq (.reg [⟨some 31, .bin .lss (.t 30) (.t 29), none⟩]) (
  .seq (.cond (.t 31) (
    .skip) (
    .exit 0)) (
  .seq (.block 1 (
    .seq (.reg [⟨some 32, .iaE 9 (.t 28) (.t 30), none⟩,
        ⟨some 33, .ld (some 9) (.t 32), none⟩,
        ⟨some 8, .alloc 1 9 [.int .i64 0, .int .u32 0, .int .u32 0, .int .u32 0, .int .u32 0, .int .i64 0, .int .i64 0, .int .i64 0, .str []], none⟩,
        ⟨none, .st 9 (.t 8) (.t 33), none⟩]) (
    .seq (.reg [⟨some 34, .fa 8 (.t 8), none⟩,
        ⟨some 35, .ld none (.t 34), none⟩,
        ⟨some 36, .lenS (.t 35), none⟩,
        ⟨some 37, .bin .gtr (.t 36) (.c (.int .i64 500)), none⟩]) (
    .cond (.t 37) (
      .seq (.reg [⟨some 38, .call 46 [], none⟩,
          ⟨some 6, .cp (.t 38), none⟩]) (
      .ret)) (
      .skip))))) (
  .reg [⟨some 39, .bin .add (.t 30) (.c (.int .i64 1)), none⟩,
      ⟨some 30, .cp (.t 39), none⟩])))
def a10_l1 : AC := .seq (.reg [⟨some 65, .bin .lss (.t 64) (.t 63), none⟩]) (
  .seq (.cond (.t 65) (
    .skip) (
    .exit 2)) (
  .seq (.block 3 (
    .seq (.reg [⟨some 66, .cp (.t 64), none⟩,
        ⟨some 11, .cp (.t 66), none⟩]) (
    .seq (.drw [⟨some 67, .cp (.t 9), none⟩,
        ⟨some 68, .cp (.t 11), none⟩,
        ⟨some 69, .iaE 9 (.t 67) (.t 68), none⟩,
        ⟨some 70, .ld (some 9) (.t 69), none⟩,
        ⟨some 71, .cp (.t 10), none⟩,
        ⟨some 72, .cp (.t 11), none⟩,
        ⟨some 73, .iaE 9 (.t 71) (.t 72), none⟩,
        ⟨some 74, .ld (some 9) (.t 73), none⟩,
        ⟨some 75, .eqA true [.i, .i, .i, .i, .i, .i, .i, .i, .s] (.t 70) (.t 74), none⟩,
        ⟨some 76, .cp (.t 75), none⟩,
        ⟨some 77, .cp (.t 9), some (76, false)⟩,
        ⟨some 78, .cp (.t 11), some (76, false)⟩,
        ⟨some 79, .iaE 9 (.t 77) (.t 78), some (76, false)⟩,
        ⟨some 80, .fa 8 (.t 79), some (76, false)⟩,
        ⟨some 81, .ld none (.t 80), some (76, false)⟩,
        ⟨some 82, .lenS (.t 81), some (76, false)⟩,
        ⟨some 83, .bin .gtr (.t 82) (.c (.int .i64 64)), some (76, false)⟩,
        ⟨some 84, .pick (.t 76) (.c (.bool true)) (.t 83), none⟩,
        ⟨some 85, .cp (.t 84), none⟩,
        ⟨some 86, .cp (.t 9), some (85, false)⟩,
        ⟨some 87, .cp (.t 11), some (85, false)⟩,
        ⟨some 88, .iaE 9 (.t 86) (.t 87), some (85, false)⟩,
        ⟨some 89, .fa 8 (.t 88), some (85, false)⟩,
        ⟨some 90, .ld none (.t 89), some (85, false)⟩,
        ⟨some 91, .lenS (.t 90), some (85, false)⟩,
        ⟨some 92, .bin .eql (.t 91) (.c (.int .i64 0)), some (85, false)⟩,
        ⟨some 93, .pick (.t 85) (.c (.bool true)) (.t 92), none⟩,
        ⟨some 94, .cp (.t 93), none⟩,
        ⟨some 95, .cp (.t 9), some (94, false)⟩,
        ⟨some 96, .cp (.t 11), some (94, false)⟩,
        ⟨some 97, .iaE 9 (.t 95) (.t 96), some (94, false)⟩,
        ⟨some 98, .fa 5 (.t 97), some (94, false)⟩,
        ⟨some 99, .ld none (.t 98), some (94, false)⟩,
        ⟨some 100, .fa 5 (.t 3), some (94, false)⟩,
        ⟨some 101, .ld none (.t 100), some (94, false)⟩,
        ⟨some 102, .bin .neq (.t 99) (.t 101), some (94, false)⟩,
        ⟨some 103, .pick (.t 94) (.c (.bool true)) (.t 102), none⟩,
        ⟨some 104, .cp (.t 103), none⟩,
        ⟨some 105, .cp (.t 9), some (104, false)⟩,
        ⟨some 106, .cp (.t 11), some (104, false)⟩,
        ⟨some 107, .iaE 9 (.t 105) (.t 106), some (104, false)⟩,
        ⟨some 108, .fa 6 (.t 107), some (104, false)⟩,
        ⟨some 109, .ld none (.t 108), some (104, false)⟩,
        ⟨some 110, .fa 6 (.t 3), some (104, false)⟩,
        ⟨some 111, .ld none (.t 110), some (104, false)⟩,
        ⟨some 112, .bin .neq (.t 109) (.t 111), some (104, false)⟩,
        ⟨some 113, .pick (.t 104) (.c (.bool true)) (.t 112), none⟩] []) (
    .cond (.t 113) (
      .seq (.reg [⟨some 6, .cp (.c (.bool false)), none⟩]) (
      .ret)) (
      .skip))))) (
  .reg [⟨some 114, .bin .add (.t 64) (.c (.int .i64 1)), none⟩,
      ⟨some 64, .cp (.t 114), none⟩])))
def a10 : AC := .seq (.reg [⟨some 3, .box 0 9 (.t 0), none⟩,
      ⟨some 6, .cp (.c (.bool false)), none⟩]) (
  .seq (.seq (.reg [⟨some 13, .cp (.t 1), none⟩,
      ⟨some 14, .lenS (.t 13), none⟩,
      ⟨some 15, .bin .gtr (.t 14) (.c (.int .i64 5000)), none⟩,
      ⟨some 16, .cp (.t 15), none⟩,
      ⟨some 17, .fa 8 (.t 3), some (16, false)⟩,
      ⟨some 18, .ld none (.t 17), some (16, false)⟩,
      ⟨some 19, .lenS (.t 18), some (16, false)⟩,
      ⟨some 20, .bin .gtr (.t 19) (.c (.int .i64 500)), some (16, false)⟩,
      ⟨some 21, .pick (.t 16) (.c (.bool true)) (.t 20), none⟩,
      ⟨some 22, .cp (.t 21), none⟩,
      ⟨some 23, .cp (.t 2), some (22, false)⟩,
      ⟨some 24, .len (.t 23), some (22, false)⟩,
      ⟨some 25, .bin .gtr (.t 24) (.c (.int .i64 80)), some (22, false)⟩,
      ⟨some 26, .pick (.t 22) (.c (.bool true)) (.t 25), none⟩]) (
  .cond (.t 26) (
    .seq (.reg [⟨some 27, .call 46 [], none⟩,
        ⟨some 6, .cp (.t 27), none⟩]) (
    .ret)) (
    .skip))) (
  .seq (.seq (.reg [⟨some 28, .cp (.t 2), none⟩,
      ⟨some 29, .len (.t 28), none⟩,
      ⟨some 30, .cp (.c (.int .i64 0)), none⟩]) (
  .block 0 (
    .loop [false, false, false, false, false, false, true, false, true, false, false, false, false, false, false, false, false, false, false, false, false, false, false, false, false, false, false, false, false, false, false, true, true, true, true, true, true, true, true, true] [1] a10_l0))) (
  .seq (.drw [⟨some 40, .ld (some 9) (.t 3), none⟩,
      ⟨some 41, .cp (.t 1), none⟩,
      ⟨some 42, .call 50 [.t 40, .t 41], none⟩,
      ⟨some 43, .ld (some 9) (.t 3), none⟩,
      ⟨some 44, .cp (.t 1), none⟩,
      ⟨some 45, .call 51 [.t 43, .t 44], none⟩,
      ⟨some 9, .tk 42, none⟩,
      ⟨some 10, .tk 45, none⟩] []) (
  .seq (.seq (.drw [⟨some 46, .cp (.t 9), none⟩,
      ⟨some 47, .len (.t 46), none⟩,
      ⟨some 48, .cp (.t 10), none⟩,
      ⟨some 49, .len (.t 48), none⟩,
      ⟨some 50, .bin .neq (.t 47) (.t 49), none⟩,
      ⟨some 51, .cp (.t 50), none⟩,
      ⟨some 52, .cp (.t 2), some (51, false)⟩,
      ⟨some 53, .fa 5 (.t 3), some (51, false)⟩,
      ⟨some 54, .ld none (.t 53), some (51, false)⟩,
      ⟨some 55, .call 52 [.t 52, .t 54], some (51, false)⟩,
      ⟨some 56, .cp (.t 2), some (51, false)⟩,
      ⟨some 57, .fa 5 (.t 3), some (51, false)⟩,
      ⟨some 58, .ld none (.t 57), some (51, false)⟩,
      ⟨some 59, .call 53 [.t 56, .t 58], some (51, false)⟩,
      ⟨some 60, .bin .neq (.t 55) (.t 59), some (51, false)⟩,
      ⟨some 61, .pick (.t 51) (.c (.bool true)) (.t 60), none⟩] []) (
  .cond (.t 61) (
    .seq (.reg [⟨some 6, .cp (.c (.bool false)), none⟩]) (
    .ret)) (
    .skip))) (
  .seq (.seq (.reg [⟨some 62, .cp (.t 9), none⟩,
      ⟨some 63, .len (.t 62), none⟩,
      ⟨some 64, .cp (.c (.int .i64 0)), none⟩]) (
  .block 2 (
    .loop [false, false, false, false, false, false, true, false, false, false, false, true, false, false, false, false, false, false, false, false, false, false, false, false, false, false, false, false, false, false, false, false, false, false, false, false, false, false, false, false, false, false, false, false, false, false, false, false, false, false, false, false, false, false, false, false, false, false, false, false, false, false, false, false, false, true, true, true, true, true, true, true, true, true, true, true, true, true, true, true, true, true, true, true, true, true, true, true, true, true, true, true, true, true, true, true, true, true, true, true, true, true, true, true, true, true, true, true, true, true, true, true, true, true, true] [] a10_l1))) (
  .seq (.reg [⟨some 115, .tk 9, none⟩,
      ⟨some 116, .fa 5 (.t 3), none⟩,
      ⟨some 117, .ld none (.t 116), none⟩,
      ⟨some 118, .call 52 [.t 115, .t 117], none⟩,
      ⟨some 12, .cp (.t 118), none⟩]) (
  .seq (.reg [⟨some 119, .cp (.t 12), none⟩,
      ⟨some 120, .cp (.t 1), none⟩,
      ⟨some 121, .cp (.t 1), none⟩,
      ⟨some 122, .lenS (.t 121), none⟩,
      ⟨some 123, .mm false [.t 122, .c (.int .i64 4096)], none⟩,
      ⟨some 124, .subS (.t 120) none (some (.t 123)), none⟩,
      ⟨some 125, .bin .eql (.t 119) (.t 124), none⟩,
      ⟨some 126, .cp (.t 125), none⟩,
      ⟨some 127, .call 46 [], some (126, true)⟩,
      ⟨some 128, .pick (.t 126) (.t 127) (.c (.bool false)), none⟩,
      ⟨some 6, .cp (.t 128), none⟩]) (
  .ret))))))))
def af10 : AFn := ⟨129, 2, [.t 6], a10⟩
theorem ak10 : chkF Try.prog 10 af10 = true := by kernel_rfl

-- f46 fingerpost/fingerpostlaw10.awake  boxes 4 notes []
def a46 : AC := .seq (.reg [⟨some 0, .cp (.c (.bool false)), none⟩]) (
  .seq (.reg [⟨some 14, .call 109 [], none⟩,
      ⟨some 15, .call 47 [.t 14], none⟩,
      ⟨some 13, .tk 15, none⟩,
      ⟨some 16, .ext (.t 13) 0, none⟩,
      ⟨some 17, .ext (.t 13) 1, none⟩,
      ⟨some 1, .cp (.t 16), none⟩,
      ⟨some 2, .cp (.t 17), none⟩]) (
  .seq (.reg [⟨some 19, .cp (.t 1), none⟩,
      ⟨some 20, .call 48 [.t 19], none⟩,
      ⟨some 18, .tk 20, none⟩,
      ⟨some 21, .ext (.t 18) 0, none⟩,
      ⟨some 22, .ext (.t 18) 1, none⟩,
      ⟨some 3, .alloc 0 9 [.int .i64 0, .int .u32 0, .int .u32 0, .int .u32 0, .int .u32 0, .int .i64 0, .int .i64 0, .int .i64 0, .str []], none⟩,
      ⟨none, .st 9 (.t 3) (.t 21), none⟩,
      ⟨some 4, .cp (.t 22), none⟩]) (
  .seq (.reg [⟨some 24, .ld (some 9) (.t 3), none⟩,
      ⟨some 25, .bld [.int .u32 0, .int .u32 0, .int .u32 0, .int .u32 0] [], none⟩,
      ⟨some 26, .call 49 [.t 24, .c (.int .i64 4), .t 25], none⟩,
      ⟨some 23, .tk 26, none⟩,
      ⟨some 27, .ext (.t 23) 0, none⟩,
      ⟨some 28, .ext (.t 23) 1, none⟩,
      ⟨some 5, .alloc 1 9 [.int .i64 0, .int .u32 0, .int .u32 0, .int .u32 0, .int .u32 0, .int .i64 0, .int .i64 0, .int .i64 0, .str []], none⟩,
      ⟨none, .st 9 (.t 5) (.t 27), none⟩,
      ⟨some 6, .cp (.t 28), none⟩]) (
  .seq (.reg [⟨some 30, .bld [.int .i64 0, .int .u32 0, .int .u32 0, .int .u32 0, .int .u32 0, .int .i64 0, .int .i64 0, .int .i64 0, .str []] [(7, 1, .c (.int .i64 1))], none⟩,
      ⟨some 31, .bld [.int .u32 0, .int .u32 0, .int .u32 0, .int .u32 0] [], none⟩,
      ⟨some 32, .call 49 [.t 30, .c (.int .i64 4), .t 31], none⟩,
      ⟨some 29, .tk 32, none⟩,
      ⟨some 33, .ext (.t 29) 0, none⟩,
      ⟨some 34, .ext (.t 29) 1, none⟩,
      ⟨some 7, .alloc 2 9 [.int .i64 0, .int .u32 0, .int .u32 0, .int .u32 0, .int .u32 0, .int .i64 0, .int .i64 0, .int .i64 0, .str []], none⟩,
      ⟨none, .st 9 (.t 7) (.t 33), none⟩,
      ⟨some 8, .cp (.t 34), none⟩]) (
  .seq (.reg [⟨some 36, .call 48 [.c (.str [115, 104, 111, 114, 116])], none⟩,
      ⟨some 35, .tk 36, none⟩,
      ⟨some 37, .ext (.t 35) 0, none⟩,
      ⟨some 38, .ext (.t 35) 1, none⟩,
      ⟨some 9, .alloc 3 9 [.int .i64 0, .int .u32 0, .int .u32 0, .int .u32 0, .int .u32 0, .int .i64 0, .int .i64 0, .int .i64 0, .str []], none⟩,
      ⟨none, .st 9 (.t 9) (.t 37), none⟩,
      ⟨some 10, .cp (.t 38), none⟩]) (
  .seq (.reg [⟨some 40, .bld [.int .i64 0, .int .u32 0, .int .u32 0, .int .u32 0, .int .u32 0, .int .i64 0, .int .i64 0, .int .i64 0, .str []] [], none⟩,
      ⟨some 41, .call 47 [.t 40], none⟩,
      ⟨some 39, .tk 41, none⟩,
      ⟨some 42, .ext (.t 39) 0, none⟩,
      ⟨some 43, .ext (.t 39) 1, none⟩,
      ⟨some 11, .cp (.t 42), none⟩,
      ⟨some 12, .cp (.t 43), none⟩]) (
  .seq (.seq (.reg [⟨some 44, .cp (.t 1), none⟩,
      ⟨some 45, .lenS (.t 44), none⟩,
      ⟨some 46, .bin .neq (.t 45) (.c (.int .i64 22)), none⟩]) (
  .cond (.t 46) (
    .seq (.reg [⟨some 0, .cp (.c (.bool false)), none⟩]) (
    .ret)) (
    .skip))) (
  .seq (.drw [⟨some 47, .cp (.t 2), none⟩,
      ⟨some 48, .bin .eql (.t 47) (.c (.int .i64 0)), none⟩,
      ⟨some 49, .cp (.t 48), none⟩,
      ⟨some 50, .cp (.t 1), some (49, true)⟩,
      ⟨some 51, .subS (.t 50) (some (.c (.int .i64 17))) (some (.c (.int .i64 20))), some (49, true)⟩,
      ⟨some 52, .bin .eql (.t 51) (.c (.str [35, 9, 2])), some (49, true)⟩,
      ⟨some 53, .pick (.t 49) (.t 52) (.c (.bool false)), none⟩,
      ⟨some 54, .cp (.t 53), none⟩,
      ⟨some 55, .cp (.t 4), some (54, true)⟩,
      ⟨some 56, .bin .eql (.t 55) (.c (.int .i64 0)), some (54, true)⟩,
      ⟨some 57, .pick (.t 54) (.t 56) (.c (.bool false)), none⟩,
      ⟨some 58, .cp (.t 57), none⟩,
      ⟨some 59, .ld (some 9) (.t 3), some (58, true)⟩,
      ⟨some 60, .call 109 [], some (58, true)⟩,
      ⟨some 61, .eqA false [.i, .i, .i, .i, .i, .i, .i, .i, .s] (.t 59) (.t 60), some (58, true)⟩,
      ⟨some 62, .pick (.t 58) (.t 61) (.c (.bool false)), none⟩,
      ⟨some 63, .cp (.t 62), none⟩,
      ⟨some 64, .cp (.t 6), some (63, true)⟩,
      ⟨some 65, .pick (.t 63) (.t 64) (.c (.bool false)), none⟩,
      ⟨some 66, .cp (.t 65), none⟩,
      ⟨some 67, .fa 7 (.t 5), some (66, true)⟩,
      ⟨some 68, .ld none (.t 67), some (66, true)⟩,
      ⟨some 69, .bin .eql (.t 68) (.c (.int .i64 8)), some (66, true)⟩,
      ⟨some 70, .pick (.t 66) (.t 69) (.c (.bool false)), none⟩,
      ⟨some 71, .cp (.t 70), none⟩,
      ⟨some 72, .fa 0 (.t 5), some (71, true)⟩,
      ⟨some 73, .ld none (.t 72), some (71, true)⟩,
      ⟨some 74, .bin .eql (.t 73) (.c (.int .i64 4)), some (71, true)⟩,
      ⟨some 75, .pick (.t 71) (.t 74) (.c (.bool false)), none⟩,
      ⟨some 76, .cp (.t 75), none⟩,
      ⟨some 77, .cp (.t 8), some (76, true)⟩,
      ⟨some 78, .un .not (.t 77), some (76, true)⟩,
      ⟨some 79, .pick (.t 76) (.t 78) (.c (.bool false)), none⟩,
      ⟨some 80, .cp (.t 79), none⟩,
      ⟨some 81, .cp (.t 10), some (80, true)⟩,
      ⟨some 82, .bin .eql (.t 81) (.c (.int .i64 2)), some (80, true)⟩,
      ⟨some 83, .pick (.t 80) (.t 82) (.c (.bool false)), none⟩,
      ⟨some 84, .cp (.t 83), none⟩,
      ⟨some 85, .cp (.t 12), some (84, true)⟩,
      ⟨some 86, .bin .eql (.t 85) (.c (.int .i64 1)), some (84, true)⟩,
      ⟨some 87, .pick (.t 84) (.t 86) (.c (.bool false)), none⟩,
      ⟨some 88, .cp (.t 87), none⟩,
      ⟨some 89, .ld (some 9) (.t 3), some (88, true)⟩,
      ⟨some 90, .call 110 [.t 89], some (88, true)⟩,
      ⟨some 91, .pick (.t 88) (.t 90) (.c (.bool false)), none⟩,
      ⟨some 0, .cp (.t 91), none⟩] []) (
  .ret)))))))))
def af46 : AFn := ⟨92, 4, [.t 0], a46⟩
theorem ak46 : chkF Try.prog 46 af46 = true := by kernel_rfl

-- f47 fingerpost/parcel.Bytes  boxes 1 notes []
def a47 : AC := .seq (.reg [⟨some 1, .box 0 9 (.t 0), none⟩,
      ⟨some 2, .cp (.c (.str [])), none⟩,
      ⟨some 3, .cp (.c (.int .i64 0)), none⟩]) (
  .seq (.seq (.reg [⟨some 7, .ld (some 9) (.t 1), none⟩,
      ⟨some 8, .call 110 [.t 7], none⟩,
      ⟨some 9, .un .not (.t 8), none⟩]) (
  .cond (.t 9) (
    .seq (.reg [⟨some 2, .cp (.c (.str [])), none⟩,
        ⟨some 3, .cp (.c (.int .i64 1)), none⟩]) (
    .ret)) (
    .skip))) (
  .seq (.reg [⟨some 11, .fa 8 (.t 1), none⟩,
      ⟨some 12, .ld none (.t 11), none⟩,
      ⟨some 13, .call 111 [.t 12], none⟩,
      ⟨some 10, .tk 13, none⟩,
      ⟨some 14, .ext (.t 10) 0, none⟩,
      ⟨some 15, .ext (.t 10) 1, none⟩,
      ⟨some 4, .cp (.t 14), none⟩,
      ⟨some 5, .cp (.t 15), none⟩]) (
  .seq (.seq (.reg [⟨some 16, .cp (.t 5), none⟩,
      ⟨some 17, .bin .neq (.t 16) (.c (.int .i64 0)), none⟩]) (
  .cond (.t 17) (
    .seq (.reg [⟨some 18, .cp (.t 5), none⟩,
        ⟨some 2, .cp (.c (.str [])), none⟩,
        ⟨some 3, .cp (.t 18), none⟩]) (
    .ret)) (
    .skip))) (
  .seq (.drw [⟨some 19, .fa 0 (.t 1), none⟩,
      ⟨some 20, .ld none (.t 19), none⟩,
      ⟨some 21, .cv (.int .u64) (.t 20), none⟩,
      ⟨some 22, .call 100 [.t 21, .c (.int .i64 1)], none⟩,
      ⟨some 23, .fa 1 (.t 1), none⟩,
      ⟨some 24, .ld (some 4) (.t 23), none⟩,
      ⟨some 25, .call 79 [.t 24], none⟩,
      ⟨some 26, .bin .add (.t 22) (.t 25), none⟩,
      ⟨some 6, .cp (.t 26), none⟩] []) (
  .seq (.drw [⟨some 27, .cp (.t 6), none⟩,
      ⟨some 28, .fa 5 (.t 1), none⟩,
      ⟨some 29, .ld none (.t 28), none⟩,
      ⟨some 30, .bin .mul (.c (.int .i64 16)) (.t 29), none⟩,
      ⟨some 31, .fa 6 (.t 1), none⟩,
      ⟨some 32, .ld none (.t 31), none⟩,
      ⟨some 33, .bin .add (.t 30) (.t 32), none⟩,
      ⟨some 34, .cv (.int .u64) (.t 33), none⟩,
      ⟨some 35, .call 100 [.t 34, .c (.int .i64 1)], none⟩,
      ⟨some 36, .bin .add (.t 27) (.t 35), none⟩,
      ⟨some 37, .fa 7 (.t 1), none⟩,
      ⟨some 38, .ld none (.t 37), none⟩,
      ⟨some 39, .cv (.int .u64) (.t 38), none⟩,
      ⟨some 40, .call 100 [.t 39, .c (.int .i64 1)], none⟩,
      ⟨some 41, .bin .add (.t 36) (.t 40), none⟩,
      ⟨some 42, .cp (.t 4), none⟩,
      ⟨some 43, .bin .add (.t 41) (.t 42), none⟩,
      ⟨some 2, .cp (.t 43), none⟩,
      ⟨some 3, .cp (.c (.int .i64 0)), none⟩] []) (
  .ret))))))
def af47 : AFn := ⟨44, 1, [.t 2, .t 3], a47⟩
theorem ak47 : chkF Try.prog 47 af47 = true := by kernel_rfl

-- f48 fingerpost/parcel.Read  boxes 3 notes []
def a48 : AC := .seq (.reg [⟨some 2, .alloc 0 9 [.int .i64 0, .int .u32 0, .int .u32 0, .int .u32 0, .int .u32 0, .int .i64 0, .int .i64 0, .int .i64 0, .str []], none⟩,
      ⟨some 3, .cp (.c (.int .i64 0)), none⟩]) (
  .seq (.seq (.reg [⟨some 12, .cp (.t 0), none⟩,
      ⟨some 13, .lenS (.t 12), none⟩,
      ⟨some 14, .bin .lss (.t 13) (.c (.int .i64 20)), none⟩]) (
  .cond (.t 14) (
    .seq (.reg [⟨some 15, .bld [.int .i64 0, .int .u32 0, .int .u32 0, .int .u32 0, .int .u32 0, .int .i64 0, .int .i64 0, .int .i64 0, .str []] [], none⟩,
        ⟨none, .st 9 (.t 2) (.t 15), none⟩,
        ⟨some 3, .cp (.c (.int .i64 2)), none⟩]) (
    .ret)) (
    .skip))) (
  .seq (.reg [⟨some 17, .cp (.t 0), none⟩,
      ⟨some 18, .subS (.t 17) (some (.c (.int .i64 19))) none, none⟩,
      ⟨some 19, .call 112 [.t 18], none⟩,
      ⟨some 16, .tk 19, none⟩,
      ⟨some 20, .ext (.t 16) 0, none⟩,
      ⟨some 21, .ext (.t 16) 1, none⟩,
      ⟨some 22, .ext (.t 16) 2, none⟩,
      ⟨some 4, .cp (.t 20), none⟩,
      ⟨some 5, .cp (.t 21), none⟩,
      ⟨some 6, .cp (.t 22), none⟩]) (
  .seq (.seq (.reg [⟨some 23, .cp (.t 6), none⟩,
      ⟨some 24, .bin .neq (.t 23) (.c (.int .i64 0)), none⟩]) (
  .cond (.t 24) (
    .seq (.reg [⟨some 25, .bld [.int .i64 0, .int .u32 0, .int .u32 0, .int .u32 0, .int .u32 0, .int .i64 0, .int .i64 0, .int .i64 0, .str []] [], none⟩,
        ⟨some 26, .cp (.t 6), none⟩,
        ⟨none, .st 9 (.t 2) (.t 25), none⟩,
        ⟨some 3, .cp (.t 26), none⟩]) (
    .ret)) (
    .skip))) (
  .seq (.reg [⟨some 28, .cp (.t 0), none⟩,
      ⟨some 29, .subS (.t 28) (some (.c (.int .i64 1))) (some (.c (.int .i64 19))), none⟩,
      ⟨some 30, .call 83 [.t 29], none⟩,
      ⟨some 27, .tk 30, none⟩,
      ⟨some 31, .ext (.t 27) 0, none⟩,
      ⟨some 32, .ext (.t 27) 1, none⟩,
      ⟨some 33, .ext (.t 27) 2, none⟩,
      ⟨some 7, .alloc 1 4 [.int .u32 0, .int .u32 0, .int .u32 0, .int .u32 0], none⟩,
      ⟨none, .st 4 (.t 7) (.t 31), none⟩,
      ⟨some 8, .cp (.t 32), none⟩,
      ⟨some 6, .cp (.t 33), none⟩]) (
  .seq (.seq (.reg [⟨some 34, .cp (.t 6), none⟩,
      ⟨some 35, .bin .neq (.t 34) (.c (.int .i64 0)), none⟩]) (
  .cond (.t 35) (
    .seq (.reg [⟨some 36, .bld [.int .i64 0, .int .u32 0, .int .u32 0, .int .u32 0, .int .u32 0, .int .i64 0, .int .i64 0, .int .i64 0, .str []] [], none⟩,
        ⟨some 37, .cp (.t 6), none⟩,
        ⟨none, .st 9 (.t 2) (.t 36), none⟩,
        ⟨some 3, .cp (.t 37), none⟩]) (
    .ret)) (
    .skip))) (
  .seq (.drw [⟨some 38, .cp (.t 8), none⟩,
      ⟨some 39, .ixS (.t 38) (.c (.int .i64 0)), none⟩,
      ⟨some 40, .cv (.int .i64) (.t 39), none⟩,
      ⟨some 41, .cp (.t 8), none⟩,
      ⟨some 42, .ixS (.t 41) (.c (.int .i64 1)), none⟩,
      ⟨some 43, .cv (.int .i64) (.t 42), none⟩,
      ⟨some 9, .cp (.t 40), none⟩,
      ⟨some 10, .cp (.t 43), none⟩] []) (
  .seq (.drw [⟨some 44, .cp (.t 0), none⟩,
      ⟨some 45, .ixS (.t 44) (.c (.int .i64 0)), none⟩,
      ⟨some 46, .cv (.int .i64) (.t 45), none⟩,
      ⟨some 47, .ld (some 4) (.t 7), none⟩,
      ⟨some 48, .cp (.t 9), none⟩,
      ⟨some 49, .bin .quo (.t 48) (.c (.int .i64 16)), none⟩,
      ⟨some 50, .cp (.t 9), none⟩,
      ⟨some 51, .bin .rem (.t 50) (.c (.int .i64 16)), none⟩,
      ⟨some 52, .cp (.t 10), none⟩,
      ⟨some 53, .cp (.t 4), none⟩,
      ⟨some 54, .bld [.int .i64 0, .int .u32 0, .int .u32 0, .int .u32 0, .int .u32 0, .int .i64 0, .int .i64 0, .int .i64 0, .str []] [(0, 1, .t 46), (1, 4, .t 47), (5, 1, .t 49), (6, 1, .t 51), (7, 1, .t 52), (8, 1, .t 53)], none⟩,
      ⟨some 11, .alloc 2 9 [.int .i64 0, .int .u32 0, .int .u32 0, .int .u32 0, .int .u32 0, .int .i64 0, .int .i64 0, .int .i64 0, .str []], none⟩,
      ⟨none, .st 9 (.t 11) (.t 54), none⟩] []) (
  .seq (.seq (.reg [⟨some 55, .cp (.t 5), none⟩,
      ⟨some 56, .call 84 [.t 55], none⟩,
      ⟨some 57, .bin .neq (.t 56) (.c (.int .i64 0)), none⟩,
      ⟨some 58, .cp (.t 57), none⟩,
      ⟨some 59, .ld (some 9) (.t 11), some (58, false)⟩,
      ⟨some 60, .call 110 [.t 59], some (58, false)⟩,
      ⟨some 61, .un .not (.t 60), some (58, false)⟩,
      ⟨some 62, .pick (.t 58) (.c (.bool true)) (.t 61), none⟩]) (
  .cond (.t 62) (
    .seq (.reg [⟨some 63, .bld [.int .i64 0, .int .u32 0, .int .u32 0, .int .u32 0, .int .u32 0, .int .i64 0, .int .i64 0, .int .i64 0, .str []] [], none⟩,
        ⟨none, .st 9 (.t 2) (.t 63), none⟩,
        ⟨some 3, .cp (.c (.int .i64 3)), none⟩]) (
    .ret)) (
    .skip))) (
  .seq (.reg [⟨some 64, .ld (some 9) (.t 11), none⟩,
      ⟨none, .st 9 (.t 2) (.t 64), none⟩,
      ⟨some 3, .cp (.c (.int .i64 0)), none⟩]) (
  .ret))))))))))
def af48 : AFn := ⟨65, 3, [.c 2 (some 9), .t 3], a48⟩
theorem ak48 : chkF Try.prog 48 af48 = true := by kernel_rfl

-- f49 fingerpost/parcel.Hop  boxes 4 notes []
def a49 : AC := .seq (.reg [⟨some 3, .box 0 9 (.t 0), none⟩,
      ⟨some 5, .box 1 4 (.t 2), none⟩,
      ⟨some 6, .alloc 2 9 [.int .i64 0, .int .u32 0, .int .u32 0, .int .u32 0, .int .u32 0, .int .i64 0, .int .i64 0, .int .i64 0, .str []], none⟩,
      ⟨some 7, .cp (.c (.bool false)), none⟩]) (
  .seq (.reg [⟨some 9, .ld (some 9) (.t 3), none⟩,
      ⟨some 10, .cp (.t 1), none⟩,
      ⟨some 11, .ld (some 4) (.t 5), none⟩,
      ⟨some 12, .call 113 [.t 9, .t 10, .t 11], none⟩,
      ⟨some 8, .alloc 3 9 [.int .i64 0, .int .u32 0, .int .u32 0, .int .u32 0, .int .u32 0, .int .i64 0, .int .i64 0, .int .i64 0, .str []], none⟩,
      ⟨none, .st 9 (.t 8) (.t 12), none⟩]) (
  .seq (.drw [⟨some 13, .ld (some 9) (.t 8), none⟩,
      ⟨some 14, .ld (some 9) (.t 8), none⟩,
      ⟨some 15, .bld [.int .i64 0, .int .u32 0, .int .u32 0, .int .u32 0, .int .u32 0, .int .i64 0, .int .i64 0, .int .i64 0, .str []] [], none⟩,
      ⟨some 16, .eqA true [.i, .i, .i, .i, .i, .i, .i, .i, .s] (.t 14) (.t 15), none⟩,
      ⟨none, .st 9 (.t 6) (.t 13), none⟩,
      ⟨some 7, .cp (.t 16), none⟩] [(8, 6)]) (
  .ret)))
def af49 : AFn := ⟨17, 4, [.c 6 (some 9), .t 7], a49⟩
theorem ak49 : chkF Try.prog 49 af49 = true := by kernel_rfl

-- f50 fingerpost/parcel.Cut  boxes 1 notes []
def a50_l0 : AC := .seq (.seq (.reg [⟨some 7, .cp (.t 1), none⟩,
      ⟨some 8, .lenS (.t 7), none⟩,
      ⟨some 9, .bin .gtr (.t 8) (.c (.int .i64 0)), none⟩,
      ⟨some 10, .cp (.t 9), none⟩,
      ⟨some 11, .cp (.t 5), some (10, true)⟩,
      ⟨some 12, .len (.t 11), some (10, true)⟩,
      ⟨some 13, .bin .lss (.t 12) (.c (.int .i64 64)), some (10, true)⟩,
      ⟨some 14, .pick (.t 10) (.t 13) (.c (.bool false)), none⟩]) (
  .cond (.t 14) (
    .skip) (
    .exit 0))) (
  .block 1 (
    .seq (.reg [⟨some 15, .cp (.t 1), none⟩,
        ⟨some 16, .lenS (.t 15), none⟩,
        ⟨some 17, .mm false [.t 16, .c (.int .i64 64)], none⟩,
        ⟨some 6, .cp (.t 17), none⟩]) (
    .seq (.drw [⟨some 18, .cp (.t 1), none⟩,
        ⟨some 19, .cp (.t 6), none⟩,
        ⟨some 20, .subS (.t 18) none (some (.t 19)), none⟩,
        ⟨some 21, .cp (.t 1), none⟩,
        ⟨some 22, .cp (.t 6), none⟩,
        ⟨some 23, .subS (.t 21) (some (.t 22)) none, none⟩,
        ⟨some 24, .fa 8 (.t 2), none⟩,
        ⟨none, .st 1 (.t 24) (.t 20), none⟩,
        ⟨some 1, .cp (.t 23), none⟩] []) (
    .reg [⟨some 25, .tk 5, none⟩,
        ⟨some 26, .ld (some 9) (.t 2), none⟩,
        ⟨some 27, .bs 9 [.t 26], none⟩,
        ⟨some 28, .app 9 64 (.t 25) (.t 27), none⟩,
        ⟨some 5, .tk 28, none⟩]))))
def a50 : AC := .seq (.reg [⟨some 2, .box 0 9 (.t 0), none⟩,
      ⟨some 4, .cp (.c (.sl .own 9 [])), none⟩]) (
  .seq (.reg [⟨some 5, .cp (.c (.sl .own 9 [])), none⟩]) (
  .seq (.block 0 (
    .loop [false, false, false, false, false, false, true, true, true, true, true, true, true, true, true, true, true, true, true, true, true, true, true, true, true, true, true, true, true] [] a50_l0)) (
  .seq (.reg [⟨some 29, .tk 5, none⟩,
      ⟨some 4, .tk 29, none⟩]) (
  .ret))))
def af50 : AFn := ⟨30, 1, [.t 4], a50⟩
theorem ak50 : chkF Try.prog 50 af50 = true := by kernel_rfl

-- f51 fingerpost/fingerpostref10.Cut  boxes 1 notes []
def a51_l0 : AC := .seq (.seq (.reg [⟨some 8, .cp (.t 6), none⟩,
      ⟨some 9, .cp (.t 1), none⟩,
      ⟨some 10, .lenS (.t 9), none⟩,
      ⟨some 11, .bin .lss (.t 8) (.t 10), none⟩,
      ⟨some 12, .cp (.t 11), none⟩,
      ⟨some 13, .cp (.t 5), some (12, true)⟩,
      ⟨some 14, .len (.t 13), some (12, true)⟩,
      ⟨some 15, .bin .lss (.t 14) (.c (.int .i64 64)), some (12, true)⟩,
      ⟨some 16, .pick (.t 12) (.t 15) (.c (.bool false)), none⟩]) (
  .cond (.t 16) (
    .skip) (
    .exit 0))) (
  .block 1 (
    .seq (.reg [⟨some 17, .cp (.t 1), none⟩,
        ⟨some 18, .lenS (.t 17), none⟩,
        ⟨some 7, .cp (.t 18), none⟩]) (
    .seq (.seq (.reg [⟨some 19, .cp (.t 7), none⟩,
        ⟨some 20, .cp (.t 6), none⟩,
        ⟨some 21, .bin .sub (.t 19) (.t 20), none⟩,
        ⟨some 22, .bin .gtr (.t 21) (.c (.int .i64 64)), none⟩]) (
    .cond (.t 22) (
      .reg [⟨some 23, .cp (.t 6), none⟩,
          ⟨some 24, .bin .add (.t 23) (.c (.int .i64 64)), none⟩,
          ⟨some 7, .cp (.t 24), none⟩]) (
      .skip))) (
    .seq (.reg [⟨some 25, .cp (.t 1), none⟩,
        ⟨some 26, .cp (.t 6), none⟩,
        ⟨some 27, .cp (.t 7), none⟩,
        ⟨some 28, .subS (.t 25) (some (.t 26)) (some (.t 27)), none⟩,
        ⟨some 29, .fa 8 (.t 2), none⟩,
        ⟨none, .st 1 (.t 29) (.t 28), none⟩]) (
    .seq (.reg [⟨some 30, .tk 5, none⟩,
        ⟨some 31, .ld (some 9) (.t 2), none⟩,
        ⟨some 32, .bs 9 [.t 31], none⟩,
        ⟨some 33, .app 9 64 (.t 30) (.t 32), none⟩,
        ⟨some 5, .tk 33, none⟩]) (
    .reg [⟨some 34, .cp (.t 7), none⟩,
        ⟨some 6, .cp (.t 34), none⟩]))))))
def a51 : AC := .seq (.reg [⟨some 2, .box 0 9 (.t 0), none⟩,
      ⟨some 4, .cp (.c (.sl .own 9 [])), none⟩]) (
  .seq (.reg [⟨some 5, .cp (.c (.sl .own 9 [])), none⟩]) (
  .seq (.seq (.reg [⟨some 6, .cp (.c (.int .i64 0)), none⟩]) (
  .block 0 (
    .loop [false, false, false, false, false, false, false, true, true, true, true, true, true, true, true, true, true, true, true, true, true, true, true, true, true, true, true, true, true, true, true, true, true, true, true] [] a51_l0))) (
  .seq (.reg [⟨some 35, .tk 5, none⟩,
      ⟨some 4, .tk 35, none⟩]) (
  .ret))))
def af51 : AFn := ⟨36, 1, [.t 4], a51⟩
theorem ak51 : chkF Try.prog 51 af51 = true := by kernel_rfl

-- f53 fingerpost/fingerpostref10.Join  boxes 1 notes []
def a53_l0 : AC := .seq (.reg [⟨some 11, .bin .lss (.t 10) (.t 9), none⟩]) (
  .seq (.cond (.t 11) (
    .skip) (
    .exit 0)) (
  .seq (.block 1 (
    .seq (.reg [⟨some 12, .cp (.t 10), none⟩,
        ⟨some 13, .iaE 9 (.t 8) (.t 10), none⟩,
        ⟨some 14, .ld (some 9) (.t 13), none⟩,
        ⟨some 7, .alloc 0 9 [.int .i64 0, .int .u32 0, .int .u32 0, .int .u32 0, .int .u32 0, .int .i64 0, .int .i64 0, .int .i64 0, .str []], none⟩,
        ⟨some 6, .cp (.t 12), none⟩,
        ⟨none, .st 9 (.t 7) (.t 14), none⟩]) (
    .seq (.reg [⟨some 15, .fa 5 (.t 7), none⟩,
        ⟨some 16, .ld none (.t 15), none⟩,
        ⟨some 17, .cp (.t 1), none⟩,
        ⟨some 18, .bin .eql (.t 16) (.t 17), none⟩,
        ⟨some 19, .cp (.t 18), none⟩,
        ⟨some 20, .cp (.t 6), some (19, true)⟩,
        ⟨some 21, .bin .lss (.t 20) (.c (.int .i64 64)), some (19, true)⟩,
        ⟨some 22, .pick (.t 19) (.t 21) (.c (.bool false)), none⟩]) (
    .cond (.t 22) (
      .reg [⟨some 23, .cp (.t 5), none⟩,
          ⟨some 24, .fa 8 (.t 7), none⟩,
          ⟨some 25, .ld none (.t 24), none⟩,
          ⟨some 26, .bin .add (.t 23) (.t 25), none⟩,
          ⟨some 5, .cp (.t 26), none⟩]) (
      .skip))))) (
  .reg [⟨some 27, .bin .add (.t 10) (.c (.int .i64 1)), none⟩,
      ⟨some 10, .cp (.t 27), none⟩])))
def a53 : AC := .seq (.reg [⟨some 4, .cp (.c (.str [])), none⟩]) (
  .seq (.reg [⟨some 5, .cp (.c (.str [])), none⟩]) (
  .seq (.seq (.reg [⟨some 8, .tk 0, none⟩,
      ⟨some 9, .len (.t 8), none⟩,
      ⟨some 10, .cp (.c (.int .i64 0)), none⟩]) (
  .block 0 (
    .loop [false, false, false, false, false, false, true, true, false, false, false, true, true, true, true, true, true, true, true, true, true, true, true, true, true, true, true, true] [0] a53_l0))) (
  .seq (.reg [⟨some 28, .cp (.t 5), none⟩,
      ⟨some 4, .cp (.t 28), none⟩]) (
  .ret))))
def af53 : AFn := ⟨29, 1, [.t 4], a53⟩
theorem ak53 : chkF Try.prog 53 af53 = true := by kernel_rfl

-- f109 fingerpost/fingerpostlaw10.some  boxes 1 notes []
def a109 : AC := .seq (.reg [⟨some 0, .alloc 0 9 [.int .i64 0, .int .u32 0, .int .u32 0, .int .u32 0, .int .u32 0, .int .i64 0, .int .i64 0, .int .i64 0, .str []], none⟩]) (
  .seq (.reg [⟨some 1, .bld [.int .i64 0, .int .u32 0, .int .u32 0, .int .u32 0, .int .u32 0, .int .i64 0, .int .i64 0, .int .i64 0, .str []] [(0, 1, .c (.int .i64 1)), (5, 1, .c (.int .i64 2)), (6, 1, .c (.int .i64 3)), (7, 1, .c (.int .i64 9)), (8, 1, .c (.str [104, 105]))], none⟩,
      ⟨none, .st 9 (.t 0) (.t 1), none⟩]) (
  .ret))
def af109 : AFn := ⟨2, 1, [.c 0 (some 9)], a109⟩
theorem ak109 : chkF Try.prog 109 af109 = true := by kernel_rfl

-- f110 fingerpost/parcel.Right  boxes 1 notes []
def a110 : AC := .seq (.reg [⟨some 1, .box 0 9 (.t 0), none⟩,
      ⟨some 2, .cp (.c (.bool false)), none⟩]) (
  .seq (.reg [⟨some 3, .fa 0 (.t 1), none⟩,
      ⟨some 4, .ld none (.t 3), none⟩,
      ⟨some 5, .call 88 [.t 4], none⟩,
      ⟨some 6, .cp (.t 5), none⟩,
      ⟨some 7, .fa 5 (.t 1), some (6, true)⟩,
      ⟨some 8, .ld none (.t 7), some (6, true)⟩,
      ⟨some 9, .call 88 [.t 8], some (6, true)⟩,
      ⟨some 10, .pick (.t 6) (.t 9) (.c (.bool false)), none⟩,
      ⟨some 11, .cp (.t 10), none⟩,
      ⟨some 12, .fa 6 (.t 1), some (11, true)⟩,
      ⟨some 13, .ld none (.t 12), some (11, true)⟩,
      ⟨some 14, .call 88 [.t 13], some (11, true)⟩,
      ⟨some 15, .pick (.t 11) (.t 14) (.c (.bool false)), none⟩,
      ⟨some 16, .cp (.t 15), none⟩,
      ⟨some 17, .fa 7 (.t 1), some (16, true)⟩,
      ⟨some 18, .ld none (.t 17), some (16, true)⟩,
      ⟨some 19, .bin .geq (.t 18) (.c (.int .i64 1)), some (16, true)⟩,
      ⟨some 20, .pick (.t 16) (.t 19) (.c (.bool false)), none⟩,
      ⟨some 21, .cp (.t 20), none⟩,
      ⟨some 22, .fa 7 (.t 1), some (21, true)⟩,
      ⟨some 23, .ld none (.t 22), some (21, true)⟩,
      ⟨some 24, .bin .leq (.t 23) (.c (.int .i64 64)), some (21, true)⟩,
      ⟨some 25, .pick (.t 21) (.t 24) (.c (.bool false)), none⟩,
      ⟨some 26, .cp (.t 25), none⟩,
      ⟨some 27, .fa 8 (.t 1), some (26, true)⟩,
      ⟨some 28, .ld none (.t 27), some (26, true)⟩,
      ⟨some 29, .lenS (.t 28), some (26, true)⟩,
      ⟨some 30, .bin .leq (.t 29) (.c (.int .i64 64)), some (26, true)⟩,
      ⟨some 31, .pick (.t 26) (.t 30) (.c (.bool false)), none⟩,
      ⟨some 2, .cp (.t 31), none⟩]) (
  .ret))
def af110 : AFn := ⟨32, 1, [.t 2], a110⟩
theorem ak110 : chkF Try.prog 110 af110 = true := by kernel_rfl

-- f113 fingerpost/parcel.hopped  boxes 3 notes []
def a113 : AC := .seq (.reg [⟨some 3, .box 0 9 (.t 0), none⟩,
      ⟨some 5, .box 1 4 (.t 2), none⟩,
      ⟨some 6, .alloc 2 9 [.int .i64 0, .int .u32 0, .int .u32 0, .int .u32 0, .int .u32 0, .int .i64 0, .int .i64 0, .int .i64 0, .str []], none⟩]) (
  .seq (.seq (.reg [⟨some 7, .fa 7 (.t 3), none⟩,
      ⟨some 8, .ld none (.t 7), none⟩,
      ⟨some 9, .bin .leq (.t 8) (.c (.int .i64 1)), none⟩]) (
  .cond (.t 9) (
    .seq (.reg [⟨some 10, .bld [.int .i64 0, .int .u32 0, .int .u32 0, .int .u32 0, .int .u32 0, .int .i64 0, .int .i64 0, .int .i64 0, .str []] [], none⟩,
        ⟨none, .st 9 (.t 6) (.t 10), none⟩]) (
    .ret)) (
    .skip))) (
  .seq (.drw [⟨some 11, .cp (.t 1), none⟩,
      ⟨some 12, .ld (some 4) (.t 5), none⟩,
      ⟨some 13, .fa 0 (.t 3), none⟩,
      ⟨none, .st 1 (.t 13) (.t 11), none⟩,
      ⟨some 14, .fa 1 (.t 3), none⟩,
      ⟨none, .st 4 (.t 14) (.t 12), none⟩] [(5, 13), (5, 3)]) (
  .seq (.reg [⟨some 15, .fa 7 (.t 3), none⟩,
      ⟨some 16, .ld none (.t 15), none⟩,
      ⟨some 17, .bin .sub (.t 16) (.c (.int .i64 1)), none⟩,
      ⟨some 18, .fa 7 (.t 3), none⟩,
      ⟨none, .st 1 (.t 18) (.t 17), none⟩]) (
  .seq (.reg [⟨some 19, .ld (some 9) (.t 3), none⟩,
      ⟨none, .st 9 (.t 6) (.t 19), none⟩]) (
  .ret)))))
def af113 : AFn := ⟨20, 3, [.c 6 (some 9)], a113⟩
theorem ak113 : chkF Try.prog 113 af113 = true := by kernel_rfl

end Go.Proofs.Ytkcdeefnkbbacaa

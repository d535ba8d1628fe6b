/- The functions as data, and that they are the program's. -/
import Derived.Test.YtmchbkmenokkdaaAwM
set_option maxRecDepth 100000
namespace Go.Proofs.Ytmchbkmenokkdaa
open Go.RowKit
-- f8 fingerpost/fingerpostlaw20.ShakeSafe  boxes 4 notes []
def a8_l0 : AC := .seq (.reg [⟨some 21, .bin .lss (.t 20) (.t 19), none⟩]) (
  .seq (.cond (.t 21) (
    .skip) (
    .exit 0)) (
  .seq (.block 1 (
    .seq (.reg [⟨some 22, .ia 5 none (.t 18) (.t 20), none⟩,
        ⟨some 23, .ld (some 5) (.t 22), none⟩,
        ⟨some 7, .alloc 2 5 [.int .i64 0, .int .u32 0, .int .u32 0, .int .u32 0, .int .u32 0], none⟩,
        ⟨none, .st 5 (.t 7) (.t 23), none⟩]) (
    .seq (.reg [⟨some 25, .ld (some 12) (.t 5), none⟩,
        ⟨some 26, .ld (some 5) (.t 7), none⟩,
        ⟨some 27, .call 48 [.t 25, .t 26], none⟩,
        ⟨some 24, .tk 27, none⟩,
        ⟨some 28, .ext (.t 24) 0, none⟩,
        ⟨some 29, .ext (.t 24) 1, none⟩,
        ⟨some 8, .alloc 3 12 [.int .i64 0, .int .u32 0, .int .u32 0, .int .u32 0, .int .u32 0, .int .i64 0, .int .i64 0, .int .i64 0, .sl .own 4 [], .int .i64 0, .sl .own 8 [], .sl .own 4 []], none⟩,
        ⟨none, .st 12 (.t 8) (.t 28), none⟩,
        ⟨some 9, .cp (.t 29), none⟩]) (
    .seq (.seq (.reg [⟨some 30, .fa 3 (.t 5), none⟩,
        ⟨some 31, .ld (some 2) (.t 30), none⟩,
        ⟨some 32, .fa 3 (.t 8), none⟩,
        ⟨some 33, .ld (some 2) (.t 32), none⟩,
        ⟨some 34, .call 49 [.t 31, .t 33], none⟩,
        ⟨some 35, .cp (.t 34), none⟩,
        ⟨some 36, .fa 1 (.t 8), some (35, false)⟩,
        ⟨some 37, .ld (some 2) (.t 36), some (35, false)⟩,
        ⟨some 38, .ld (some 2) (.t 2), some (35, false)⟩,
        ⟨some 39, .eqA true [.i, .i] (.t 37) (.t 38), some (35, false)⟩,
        ⟨some 40, .pick (.t 35) (.c (.bool true)) (.t 39), none⟩]) (
    .cond (.t 40) (
      .seq (.reg [⟨some 4, .cp (.c (.bool false)), none⟩]) (
      .ret)) (
      .skip))) (
    .seq (.seq (.reg [⟨some 41, .cp (.t 9), none⟩,
        ⟨some 42, .bin .eql (.t 41) (.c (.int .i64 1)), none⟩,
        ⟨some 43, .cp (.t 42), none⟩,
        ⟨some 44, .fa 1 (.t 7), some (43, true)⟩,
        ⟨some 45, .fa 2 (.t 44), some (43, true)⟩,
        ⟨some 46, .ld (some 2) (.t 45), some (43, true)⟩,
        ⟨some 47, .ld (some 2) (.t 2), some (43, true)⟩,
        ⟨some 48, .eqA true [.i, .i] (.t 46) (.t 47), some (43, true)⟩,
        ⟨some 49, .cp (.t 48), some (43, true)⟩,
        ⟨some 50, .fa 3 (.t 8), some (49, false)⟩,
        ⟨some 51, .ld (some 2) (.t 50), some (49, false)⟩,
        ⟨some 52, .fa 1 (.t 7), some (49, false)⟩,
        ⟨some 53, .fa 0 (.t 52), some (49, false)⟩,
        ⟨some 54, .ld (some 2) (.t 53), some (49, false)⟩,
        ⟨some 55, .eqA true [.i, .i] (.t 51) (.t 54), some (49, false)⟩,
        ⟨some 56, .pick (.t 49) (.c (.bool true)) (.t 55), some (43, true)⟩,
        ⟨some 57, .cp (.t 56), some (43, true)⟩,
        ⟨some 58, .fa 0 (.t 5), some (57, false)⟩,
        ⟨some 59, .ld none (.t 58), some (57, false)⟩,
        ⟨some 60, .bin .neq (.t 59) (.c (.int .i64 1)), some (57, false)⟩,
        ⟨some 61, .pick (.t 57) (.c (.bool true)) (.t 60), some (43, true)⟩,
        ⟨some 62, .cp (.t 61), some (43, true)⟩,
        ⟨some 63, .fa 0 (.t 8), some (62, false)⟩,
        ⟨some 64, .ld none (.t 63), some (62, false)⟩,
        ⟨some 65, .bin .neq (.t 64) (.c (.int .i64 2)), some (62, false)⟩,
        ⟨some 66, .pick (.t 62) (.c (.bool true)) (.t 65), some (43, true)⟩,
        ⟨some 67, .pick (.t 43) (.t 66) (.c (.bool false)), none⟩]) (
    .cond (.t 67) (
      .seq (.reg [⟨some 4, .cp (.c (.bool false)), none⟩]) (
      .ret)) (
      .skip))) (
    .seq (.seq (.reg [⟨some 68, .cp (.t 9), none⟩,
        ⟨some 69, .bin .neq (.t 68) (.c (.int .i64 1)), none⟩,
        ⟨some 70, .cp (.t 69), none⟩,
        ⟨some 71, .fa 0 (.t 8), some (70, true)⟩,
        ⟨some 72, .ld none (.t 71), some (70, true)⟩,
        ⟨some 73, .fa 0 (.t 5), some (70, true)⟩,
        ⟨some 74, .ld none (.t 73), some (70, true)⟩,
        ⟨some 75, .bin .neq (.t 72) (.t 74), some (70, true)⟩,
        ⟨some 76, .pick (.t 70) (.t 75) (.c (.bool false)), none⟩,
        ⟨some 77, .cp (.t 76), none⟩,
        ⟨some 78, .fa 0 (.t 5), some (77, false)⟩,
        ⟨some 79, .ld none (.t 78), some (77, false)⟩,
        ⟨some 80, .bin .eql (.t 79) (.c (.int .i64 2)), some (77, false)⟩,
        ⟨some 81, .cp (.t 80), some (77, false)⟩,
        ⟨some 82, .fa 3 (.t 8), some (81, true)⟩,
        ⟨some 83, .ld (some 2) (.t 82), some (81, true)⟩,
        ⟨some 84, .fa 3 (.t 5), some (81, true)⟩,
        ⟨some 85, .ld (some 2) (.t 84), some (81, true)⟩,
        ⟨some 86, .eqA true [.i, .i] (.t 83) (.t 85), some (81, true)⟩,
        ⟨some 87, .pick (.t 81) (.t 86) (.c (.bool false)), some (77, false)⟩,
        ⟨some 88, .pick (.t 77) (.c (.bool true)) (.t 87), none⟩]) (
    .cond (.t 88) (
      .seq (.reg [⟨some 4, .cp (.c (.bool false)), none⟩]) (
      .ret)) (
      .skip))) (
    .reg [⟨some 89, .ld (some 12) (.t 8), none⟩,
        ⟨none, .st 12 (.t 5) (.t 89), none⟩]))))))) (
  .reg [⟨some 90, .bin .add (.t 20) (.c (.int .i64 1)), none⟩,
      ⟨some 20, .cp (.t 90), none⟩])))
def a8 : AC := .seq (.reg [⟨some 2, .box 0 2 (.t 0), none⟩,
      ⟨some 4, .cp (.c (.bool false)), none⟩]) (
  .seq (.seq (.reg [⟨some 10, .cp (.t 1), none⟩,
      ⟨some 11, .len (.t 10), none⟩,
      ⟨some 12, .bin .gtr (.t 11) (.c (.int .i64 100)), none⟩]) (
  .cond (.t 12) (
    .seq (.reg [⟨some 13, .call 45 [], none⟩,
        ⟨some 4, .cp (.t 13), none⟩]) (
    .ret)) (
    .skip))) (
  .seq (.drw [⟨some 14, .call 47 [], none⟩,
      ⟨some 15, .ld (some 2) (.t 2), none⟩,
      ⟨some 16, .bld [.int .u32 0, .int .u32 0] [], none⟩,
      ⟨some 17, .call 46 [.t 14, .t 15, .t 16], none⟩,
      ⟨some 5, .alloc 1 12 [.int .i64 0, .int .u32 0, .int .u32 0, .int .u32 0, .int .u32 0, .int .i64 0, .int .i64 0, .int .i64 0, .sl .own 4 [], .int .i64 0, .sl .own 8 [], .sl .own 4 []], none⟩,
      ⟨none, .st 12 (.t 5) (.t 17), none⟩] []) (
  .seq (.seq (.reg [⟨some 18, .tk 1, none⟩,
      ⟨some 19, .len (.t 18), none⟩,
      ⟨some 20, .cp (.c (.int .i64 0)), none⟩]) (
  .block 0 (
    .loop [false, false, false, false, true, false, false, true, true, true, false, false, false, false, false, false, false, false, false, false, false, true, true, true, true, true, true, true, true, true, true, true, true, true, true, true, true, true, true, true, true, true, true, true, true, true, true, true, true, true, true, true, true, true, true, true, true, true, true, true, true, true, true, true, true, true, true, true, true, true, true, true, true, true, true, true, true, true, true, true, true, true, true, true, true, true, true, true, true, true, true] [2, 3] a8_l0))) (
  .seq (.reg [⟨some 91, .call 45 [], none⟩,
      ⟨some 4, .cp (.t 91), none⟩]) (
  .ret)))))
def af8 : AFn := ⟨92, 4, [.t 4], a8⟩
theorem ak8 : chkF Try.prog 8 af8 = true := by kernel_rfl

-- f9 fingerpost/fingerpostlaw20.ShakeMeets  boxes 9 notes []
def a9 : AC := .seq (.reg [⟨some 2, .box 0 2 (.t 0), none⟩,
      ⟨some 3, .box 1 2 (.t 1), none⟩,
      ⟨some 4, .cp (.c (.bool false)), none⟩]) (
  .seq (.seq (.reg [⟨some 16, .ld (some 2) (.t 2), none⟩,
      ⟨some 17, .call 50 [.t 16], none⟩,
      ⟨some 18, .cp (.t 17), none⟩,
      ⟨some 19, .ld (some 2) (.t 3), some (18, false)⟩,
      ⟨some 20, .call 50 [.t 19], some (18, false)⟩,
      ⟨some 21, .pick (.t 18) (.c (.bool true)) (.t 20), none⟩]) (
  .cond (.t 21) (
    .seq (.reg [⟨some 22, .call 45 [], none⟩,
        ⟨some 4, .cp (.t 22), none⟩]) (
    .ret)) (
    .skip))) (
  .seq (.reg [⟨some 24, .ld (some 2) (.t 2), none⟩,
      ⟨some 25, .ld (some 2) (.t 3), none⟩,
      ⟨some 26, .call 51 [.t 24, .t 25], none⟩,
      ⟨some 23, .tk 26, none⟩,
      ⟨some 27, .ext (.t 23) 0, none⟩,
      ⟨some 28, .ext (.t 23) 1, none⟩,
      ⟨some 29, .ext (.t 23) 2, none⟩,
      ⟨some 5, .alloc 2 12 [.int .i64 0, .int .u32 0, .int .u32 0, .int .u32 0, .int .u32 0, .int .i64 0, .int .i64 0, .int .i64 0, .sl .own 4 [], .int .i64 0, .sl .own 8 [], .sl .own 4 []], none⟩,
      ⟨some 6, .alloc 3 12 [.int .i64 0, .int .u32 0, .int .u32 0, .int .u32 0, .int .u32 0, .int .i64 0, .int .i64 0, .int .i64 0, .sl .own 4 [], .int .i64 0, .sl .own 8 [], .sl .own 4 []], none⟩,
      ⟨none, .st 12 (.t 5) (.t 27), none⟩,
      ⟨none, .st 12 (.t 6) (.t 28), none⟩,
      ⟨some 7, .cp (.t 29), none⟩]) (
  .seq (.seq (.drw [⟨some 30, .cp (.t 7), none⟩,
      ⟨some 31, .un .not (.t 30), none⟩,
      ⟨some 32, .cp (.t 31), none⟩,
      ⟨some 33, .ld (some 12) (.t 5), some (32, false)⟩,
      ⟨some 34, .ld (some 12) (.t 6), some (32, false)⟩,
      ⟨some 35, .call 53 [.t 34], some (32, false)⟩,
      ⟨some 36, .call 52 [.t 33, .t 35], some (32, false)⟩,
      ⟨some 37, .un .not (.t 36), some (32, false)⟩,
      ⟨some 38, .pick (.t 32) (.c (.bool true)) (.t 37), none⟩,
      ⟨some 39, .cp (.t 38), none⟩,
      ⟨some 40, .ld (some 12) (.t 6), some (39, false)⟩,
      ⟨some 41, .ld (some 12) (.t 5), some (39, false)⟩,
      ⟨some 42, .call 53 [.t 41], some (39, false)⟩,
      ⟨some 43, .call 52 [.t 40, .t 42], some (39, false)⟩,
      ⟨some 44, .un .not (.t 43), some (39, false)⟩,
      ⟨some 45, .pick (.t 39) (.c (.bool true)) (.t 44), none⟩] []) (
  .cond (.t 45) (
    .seq (.reg [⟨some 4, .cp (.c (.bool false)), none⟩]) (
    .ret)) (
    .skip))) (
  .seq (.reg [⟨some 47, .ld (some 2) (.t 3), none⟩,
      ⟨some 48, .call 54 [.t 47], none⟩,
      ⟨some 46, .tk 48, none⟩,
      ⟨some 49, .ext (.t 46) 0, none⟩,
      ⟨some 50, .ext (.t 46) 1, none⟩,
      ⟨some 8, .alloc 4 2 [.int .u32 0, .int .u32 0], none⟩,
      ⟨none, .st 2 (.t 8) (.t 49), none⟩,
      ⟨some 9, .cp (.t 50), none⟩]) (
  .seq (.seq (.reg [⟨some 51, .cp (.t 9), none⟩,
      ⟨some 52, .bin .neq (.t 51) (.c (.int .i64 0)), none⟩]) (
  .cond (.t 52) (
    .seq (.reg [⟨some 53, .call 45 [], none⟩,
        ⟨some 4, .cp (.t 53), none⟩]) (
    .ret)) (
    .skip))) (
  .seq (.reg [⟨some 54, .ld (some 12) (.t 6), none⟩,
      ⟨some 55, .ld (some 2) (.t 8), none⟩,
      ⟨some 56, .bld [.int .u32 0, .int .u32 0] [], none⟩,
      ⟨some 57, .call 46 [.t 54, .t 55, .t 56], none⟩,
      ⟨some 10, .alloc 5 12 [.int .i64 0, .int .u32 0, .int .u32 0, .int .u32 0, .int .u32 0, .int .i64 0, .int .i64 0, .int .i64 0, .sl .own 4 [], .int .i64 0, .sl .own 8 [], .sl .own 4 []], none⟩,
      ⟨none, .st 12 (.t 10) (.t 57), none⟩]) (
  .seq (.drw [⟨some 59, .ld (some 12) (.t 5), none⟩,
      ⟨some 60, .ld (some 12) (.t 10), none⟩,
      ⟨some 61, .call 55 [.c (.int .i64 2), .t 60], none⟩,
      ⟨some 62, .call 48 [.t 59, .t 61], none⟩,
      ⟨some 58, .cp (.t 62), none⟩,
      ⟨some 63, .ext (.t 58) 0, none⟩,
      ⟨some 64, .ext (.t 58) 1, none⟩,
      ⟨some 11, .alloc 6 12 [.int .i64 0, .int .u32 0, .int .u32 0, .int .u32 0, .int .u32 0, .int .i64 0, .int .i64 0, .int .i64 0, .sl .own 4 [], .int .i64 0, .sl .own 8 [], .sl .own 4 []], none⟩,
      ⟨none, .st 12 (.t 11) (.t 63), none⟩,
      ⟨some 12, .cp (.t 64), none⟩] []) (
  .seq (.reg [⟨some 65, .ld (some 12) (.t 5), none⟩,
      ⟨some 66, .ld (some 2) (.t 2), none⟩,
      ⟨some 67, .ld (some 2) (.t 8), none⟩,
      ⟨some 68, .call 46 [.t 65, .t 66, .t 67], none⟩,
      ⟨some 13, .alloc 7 12 [.int .i64 0, .int .u32 0, .int .u32 0, .int .u32 0, .int .u32 0, .int .i64 0, .int .i64 0, .int .i64 0, .sl .own 4 [], .int .i64 0, .sl .own 8 [], .sl .own 4 []], none⟩,
      ⟨none, .st 12 (.t 13) (.t 68), none⟩]) (
  .seq (.drw [⟨some 70, .ld (some 12) (.t 13), none⟩,
      ⟨some 71, .ld (some 12) (.t 6), none⟩,
      ⟨some 72, .call 55 [.c (.int .i64 2), .t 71], none⟩,
      ⟨some 73, .call 48 [.t 70, .t 72], none⟩,
      ⟨some 69, .cp (.t 73), none⟩,
      ⟨some 74, .ext (.t 69) 0, none⟩,
      ⟨some 75, .ext (.t 69) 1, none⟩,
      ⟨some 14, .alloc 8 12 [.int .i64 0, .int .u32 0, .int .u32 0, .int .u32 0, .int .u32 0, .int .i64 0, .int .i64 0, .int .i64 0, .sl .own 4 [], .int .i64 0, .sl .own 8 [], .sl .own 4 []], none⟩,
      ⟨none, .st 12 (.t 14) (.t 74), none⟩,
      ⟨some 15, .cp (.t 75), none⟩] []) (
  .seq (.drw [⟨some 76, .cp (.t 12), none⟩,
      ⟨some 77, .bin .eql (.t 76) (.c (.int .i64 2)), none⟩,
      ⟨some 78, .cp (.t 77), none⟩,
      ⟨some 79, .cp (.t 15), some (78, true)⟩,
      ⟨some 80, .bin .eql (.t 79) (.c (.int .i64 3)), some (78, true)⟩,
      ⟨some 81, .pick (.t 78) (.t 80) (.c (.bool false)), none⟩,
      ⟨some 82, .cp (.t 81), none⟩,
      ⟨some 83, .ld (some 12) (.t 5), some (82, true)⟩,
      ⟨some 84, .ld (some 12) (.t 10), some (82, true)⟩,
      ⟨some 85, .call 53 [.t 84], some (82, true)⟩,
      ⟨some 86, .call 52 [.t 83, .t 85], some (82, true)⟩,
      ⟨some 87, .un .not (.t 86), some (82, true)⟩,
      ⟨some 88, .pick (.t 82) (.t 87) (.c (.bool false)), none⟩,
      ⟨some 89, .cp (.t 88), none⟩,
      ⟨some 90, .call 45 [], some (89, true)⟩,
      ⟨some 91, .pick (.t 89) (.t 90) (.c (.bool false)), none⟩,
      ⟨some 4, .cp (.t 91), none⟩] []) (
  .ret)))))))))))
def af9 : AFn := ⟨92, 9, [.t 4], a9⟩
theorem ak9 : chkF Try.prog 9 af9 = true := by kernel_rfl

-- f45 fingerpost/fingerpostlaw20.awake  boxes 5 notes []
def a45 : AC := .seq (.reg [⟨some 0, .cp (.c (.bool false)), none⟩]) (
  .seq (.reg [⟨some 11, .call 102 [.c (.int .u32 1), .c (.int .u32 0)], none⟩,
      ⟨some 12, .call 102 [.c (.int .u32 4), .c (.int .u32 2)], none⟩,
      ⟨some 13, .call 51 [.t 11, .t 12], none⟩,
      ⟨some 10, .tk 13, none⟩,
      ⟨some 14, .ext (.t 10) 0, none⟩,
      ⟨some 15, .ext (.t 10) 1, none⟩,
      ⟨some 16, .ext (.t 10) 2, none⟩,
      ⟨some 1, .alloc 0 12 [.int .i64 0, .int .u32 0, .int .u32 0, .int .u32 0, .int .u32 0, .int .i64 0, .int .i64 0, .int .i64 0, .sl .own 4 [], .int .i64 0, .sl .own 8 [], .sl .own 4 []], none⟩,
      ⟨some 2, .alloc 1 12 [.int .i64 0, .int .u32 0, .int .u32 0, .int .u32 0, .int .u32 0, .int .i64 0, .int .i64 0, .int .i64 0, .sl .own 4 [], .int .i64 0, .sl .own 8 [], .sl .own 4 []], none⟩,
      ⟨none, .st 12 (.t 1) (.t 14), none⟩,
      ⟨none, .st 12 (.t 2) (.t 15), none⟩,
      ⟨some 3, .cp (.t 16), none⟩]) (
  .seq (.drw [⟨some 18, .ld (some 12) (.t 1), none⟩,
      ⟨some 19, .call 102 [.c (.int .u32 4), .c (.int .u32 1)], none⟩,
      ⟨some 20, .bld [.int .u32 0, .int .u32 0, .int .u32 0, .int .u32 0] [(0, 2, .t 19)], none⟩,
      ⟨some 21, .bld [.int .i64 0, .int .u32 0, .int .u32 0, .int .u32 0, .int .u32 0] [(0, 1, .c (.int .i64 2)), (1, 4, .t 20)], none⟩,
      ⟨some 22, .call 48 [.t 18, .t 21], none⟩,
      ⟨some 17, .cp (.t 22), none⟩,
      ⟨some 23, .ext (.t 17) 0, none⟩,
      ⟨some 24, .ext (.t 17) 1, none⟩,
      ⟨some 4, .alloc 2 12 [.int .i64 0, .int .u32 0, .int .u32 0, .int .u32 0, .int .u32 0, .int .i64 0, .int .i64 0, .int .i64 0, .sl .own 4 [], .int .i64 0, .sl .own 8 [], .sl .own 4 []], none⟩,
      ⟨none, .st 12 (.t 4) (.t 23), none⟩,
      ⟨some 5, .cp (.t 24), none⟩] []) (
  .seq (.drw [⟨some 26, .ld (some 12) (.t 1), none⟩,
      ⟨some 27, .call 102 [.c (.int .u32 5), .c (.int .u32 0)], none⟩,
      ⟨some 28, .bld [.int .u32 0, .int .u32 0, .int .u32 0, .int .u32 0] [(0, 2, .t 27)], none⟩,
      ⟨some 29, .bld [.int .i64 0, .int .u32 0, .int .u32 0, .int .u32 0, .int .u32 0] [(0, 1, .c (.int .i64 2)), (1, 4, .t 28)], none⟩,
      ⟨some 30, .call 48 [.t 26, .t 29], none⟩,
      ⟨some 25, .cp (.t 30), none⟩,
      ⟨some 31, .ext (.t 25) 0, none⟩,
      ⟨some 32, .ext (.t 25) 1, none⟩,
      ⟨some 6, .alloc 3 12 [.int .i64 0, .int .u32 0, .int .u32 0, .int .u32 0, .int .u32 0, .int .i64 0, .int .i64 0, .int .i64 0, .sl .own 4 [], .int .i64 0, .sl .own 8 [], .sl .own 4 []], none⟩,
      ⟨none, .st 12 (.t 6) (.t 31), none⟩,
      ⟨some 7, .cp (.t 32), none⟩] []) (
  .seq (.drw [⟨some 34, .call 47 [], none⟩,
      ⟨some 35, .ld (some 12) (.t 2), none⟩,
      ⟨some 36, .call 55 [.c (.int .i64 2), .t 35], none⟩,
      ⟨some 37, .call 48 [.t 34, .t 36], none⟩,
      ⟨some 33, .cp (.t 37), none⟩,
      ⟨some 38, .ext (.t 33) 0, none⟩,
      ⟨some 39, .ext (.t 33) 1, none⟩,
      ⟨some 8, .alloc 4 12 [.int .i64 0, .int .u32 0, .int .u32 0, .int .u32 0, .int .u32 0, .int .i64 0, .int .i64 0, .int .i64 0, .sl .own 4 [], .int .i64 0, .sl .own 8 [], .sl .own 4 []], none⟩,
      ⟨none, .st 12 (.t 8) (.t 38), none⟩,
      ⟨some 9, .cp (.t 39), none⟩] []) (
  .seq (.drw [⟨some 40, .cp (.t 3), none⟩,
      ⟨some 41, .cp (.t 40), none⟩,
      ⟨some 42, .fa 0 (.t 1), some (41, true)⟩,
      ⟨some 43, .ld none (.t 42), some (41, true)⟩,
      ⟨some 44, .bin .eql (.t 43) (.c (.int .i64 2)), some (41, true)⟩,
      ⟨some 45, .pick (.t 41) (.t 44) (.c (.bool false)), none⟩,
      ⟨some 46, .cp (.t 45), none⟩,
      ⟨some 47, .fa 0 (.t 2), some (46, true)⟩,
      ⟨some 48, .ld none (.t 47), some (46, true)⟩,
      ⟨some 49, .bin .eql (.t 48) (.c (.int .i64 2)), some (46, true)⟩,
      ⟨some 50, .pick (.t 46) (.t 49) (.c (.bool false)), none⟩,
      ⟨some 51, .cp (.t 50), none⟩,
      ⟨some 52, .ld (some 12) (.t 1), some (51, true)⟩,
      ⟨some 53, .ld (some 12) (.t 2), some (51, true)⟩,
      ⟨some 54, .call 53 [.t 53], some (51, true)⟩,
      ⟨some 55, .call 52 [.t 52, .t 54], some (51, true)⟩,
      ⟨some 56, .pick (.t 51) (.t 55) (.c (.bool false)), none⟩,
      ⟨some 57, .cp (.t 56), none⟩,
      ⟨some 58, .ld (some 12) (.t 1), some (57, true)⟩,
      ⟨some 59, .ld (some 12) (.t 1), some (57, true)⟩,
      ⟨some 60, .call 53 [.t 59], some (57, true)⟩,
      ⟨some 61, .call 52 [.t 58, .t 60], some (57, true)⟩,
      ⟨some 62, .un .not (.t 61), some (57, true)⟩,
      ⟨some 63, .pick (.t 57) (.t 62) (.c (.bool false)), none⟩,
      ⟨some 64, .cp (.t 63), none⟩,
      ⟨some 65, .cp (.t 5), some (64, true)⟩,
      ⟨some 66, .bin .eql (.t 65) (.c (.int .i64 3)), some (64, true)⟩,
      ⟨some 67, .pick (.t 64) (.t 66) (.c (.bool false)), none⟩,
      ⟨some 68, .cp (.t 67), none⟩,
      ⟨some 69, .cp (.t 7), some (68, true)⟩,
      ⟨some 70, .bin .eql (.t 69) (.c (.int .i64 2)), some (68, true)⟩,
      ⟨some 71, .pick (.t 68) (.t 70) (.c (.bool false)), none⟩,
      ⟨some 72, .cp (.t 71), none⟩,
      ⟨some 73, .ld (some 12) (.t 6), some (72, true)⟩,
      ⟨some 74, .ld (some 12) (.t 1), some (72, true)⟩,
      ⟨some 75, .call 103 [.t 73, .t 74], some (72, true)⟩,
      ⟨some 76, .pick (.t 72) (.t 75) (.c (.bool false)), none⟩,
      ⟨some 77, .cp (.t 76), none⟩,
      ⟨some 78, .cp (.t 9), some (77, true)⟩,
      ⟨some 79, .bin .eql (.t 78) (.c (.int .i64 0)), some (77, true)⟩,
      ⟨some 80, .pick (.t 77) (.t 79) (.c (.bool false)), none⟩,
      ⟨some 81, .cp (.t 80), none⟩,
      ⟨some 82, .ld (some 12) (.t 1), some (81, true)⟩,
      ⟨some 83, .ld (some 12) (.t 2), some (81, true)⟩,
      ⟨some 84, .call 103 [.t 82, .t 83], some (81, true)⟩,
      ⟨some 85, .un .not (.t 84), some (81, true)⟩,
      ⟨some 86, .pick (.t 81) (.t 85) (.c (.bool false)), none⟩,
      ⟨some 0, .cp (.t 86), none⟩] []) (
  .ret))))))
def af45 : AFn := ⟨87, 5, [.t 0], a45⟩
theorem ak45 : chkF Try.prog 45 af45 = true := by kernel_rfl

-- f46 fingerpost/shake.Begin  boxes 4 notes []
def a46 : AC := .seq (.reg [⟨some 3, .box 0 12 (.t 0), none⟩,
      ⟨some 4, .box 1 2 (.t 1), none⟩,
      ⟨some 5, .box 2 2 (.t 2), none⟩,
      ⟨some 6, .alloc 3 12 [.int .i64 0, .int .u32 0, .int .u32 0, .int .u32 0, .int .u32 0, .int .i64 0, .int .i64 0, .int .i64 0, .sl .own 4 [], .int .i64 0, .sl .own 8 [], .sl .own 4 []], none⟩]) (
  .seq (.drw [⟨some 7, .ld (some 2) (.t 4), none⟩,
      ⟨some 8, .ld (some 2) (.t 5), none⟩,
      ⟨some 9, .call 104 [], none⟩,
      ⟨some 10, .bld [.int .i64 0, .int .u32 0, .int .u32 0, .int .u32 0, .int .u32 0, .int .i64 0, .int .i64 0, .int .i64 0, .sl .own 4 [], .int .i64 0, .sl .own 8 [], .sl .own 4 []] [(0, 1, .c (.int .i64 1)), (1, 2, .t 7), (3, 2, .t 8), (7, 5, .t 9)], none⟩,
      ⟨none, .st 12 (.t 6) (.t 10), none⟩] []) (
  .ret))
def af46 : AFn := ⟨11, 4, [.c 6 (some 12)], a46⟩
theorem ak46 : chkF Try.prog 46 af46 = true := by kernel_rfl

-- f47 fingerpost/shake.New  boxes 1 notes []
def a47 : AC := .seq (.reg [⟨some 0, .alloc 0 12 [.int .i64 0, .int .u32 0, .int .u32 0, .int .u32 0, .int .u32 0, .int .i64 0, .int .i64 0, .int .i64 0, .sl .own 4 [], .int .i64 0, .sl .own 8 [], .sl .own 4 []], none⟩]) (
  .seq (.reg [⟨some 1, .call 104 [], none⟩,
      ⟨some 2, .bld [.int .i64 0, .int .u32 0, .int .u32 0, .int .u32 0, .int .u32 0, .int .i64 0, .int .i64 0, .int .i64 0, .sl .own 4 [], .int .i64 0, .sl .own 8 [], .sl .own 4 []] [(0, 1, .c (.int .i64 0)), (7, 5, .t 1)], none⟩,
      ⟨none, .st 12 (.t 0) (.t 2), none⟩]) (
  .ret))
def af47 : AFn := ⟨3, 1, [.c 0 (some 12)], a47⟩
theorem ak47 : chkF Try.prog 47 af47 = true := by kernel_rfl

-- f48 fingerpost/shake.Hear  boxes 4 notes []
def a48 : AC := .seq (.reg [⟨some 2, .box 0 12 (.t 0), none⟩,
      ⟨some 3, .box 1 5 (.t 1), none⟩,
      ⟨some 4, .alloc 2 12 [.int .i64 0, .int .u32 0, .int .u32 0, .int .u32 0, .int .u32 0, .int .i64 0, .int .i64 0, .int .i64 0, .sl .own 4 [], .int .i64 0, .sl .own 8 [], .sl .own 4 []], none⟩,
      ⟨some 5, .cp (.c (.int .i64 0)), none⟩]) (
  .seq (.seq (.reg [⟨some 7, .fa 0 (.t 2), none⟩,
      ⟨some 8, .ld none (.t 7), none⟩,
      ⟨some 9, .bin .eql (.t 8) (.c (.int .i64 0)), none⟩,
      ⟨some 10, .cp (.t 9), none⟩,
      ⟨some 11, .ld (some 5) (.t 3), some (10, false)⟩,
      ⟨some 12, .call 105 [.t 11], some (10, false)⟩,
      ⟨some 13, .un .not (.t 12), some (10, false)⟩,
      ⟨some 14, .pick (.t 10) (.c (.bool true)) (.t 13), none⟩]) (
  .cond (.t 14) (
    .seq (.reg [⟨some 15, .ld (some 12) (.t 2), none⟩,
        ⟨none, .st 12 (.t 4) (.t 15), none⟩,
        ⟨some 5, .cp (.c (.int .i64 0)), none⟩]) (
    .ret)) (
    .skip))) (
  .seq (.reg [⟨some 16, .fa 1 (.t 3), none⟩,
      ⟨some 17, .fa 0 (.t 16), none⟩,
      ⟨some 18, .ld (some 2) (.t 17), none⟩,
      ⟨some 6, .alloc 3 2 [.int .u32 0, .int .u32 0], none⟩,
      ⟨none, .st 2 (.t 6) (.t 18), none⟩]) (
  .seq (.seq (.reg [⟨some 19, .fa 3 (.t 2), none⟩,
      ⟨some 20, .ld (some 2) (.t 19), none⟩,
      ⟨some 21, .ld (some 2) (.t 6), none⟩,
      ⟨some 22, .call 49 [.t 20, .t 21], none⟩]) (
  .cond (.t 22) (
    .seq (.reg [⟨some 23, .ld (some 12) (.t 2), none⟩,
        ⟨none, .st 12 (.t 4) (.t 23), none⟩,
        ⟨some 5, .cp (.c (.int .i64 3)), none⟩]) (
    .ret)) (
    .skip))) (
  .seq (.seq (.reg [⟨some 24, .fa 0 (.t 2), none⟩,
      ⟨some 25, .ld none (.t 24), none⟩]) (
  .block 0 (
    .seq (.block 2 (
      .seq (.block 1 (
        .seq (.seq (.reg [⟨some 27, .bin .eql (.t 25) (.c (.int .i64 2)), none⟩,
            ⟨some 26, .cp (.t 27), none⟩]) (
        .cond (.t 26) (
          .exit 1) (
          .skip))) (
        .exit 2))) (
      .seq (.reg [⟨some 28, .ld (some 2) (.t 6), none⟩,
          ⟨some 29, .fa 3 (.t 2), none⟩,
          ⟨some 30, .ld (some 2) (.t 29), none⟩,
          ⟨some 31, .call 49 [.t 28, .t 30], none⟩]) (
      .cond (.t 31) (
        .seq (.reg [⟨some 32, .ld (some 12) (.t 2), none⟩,
            ⟨none, .st 12 (.t 4) (.t 32), none⟩,
            ⟨some 5, .cp (.c (.int .i64 2)), none⟩]) (
        .ret)) (
        .skip))))) (
    .seq (.reg [⟨some 33, .ld (some 2) (.t 6), none⟩,
        ⟨some 34, .fa 3 (.t 2), none⟩,
        ⟨none, .st 2 (.t 34) (.t 33), none⟩,
        ⟨some 35, .fa 5 (.t 2), none⟩,
        ⟨none, .st 1 (.t 35) (.c (.int .i64 0)), none⟩]) (
    .exit 0))))) (
  .seq (.seq (.reg [⟨some 36, .fa 0 (.t 2), none⟩,
      ⟨some 37, .ld none (.t 36), none⟩,
      ⟨some 38, .bin .neq (.t 37) (.c (.int .i64 1)), none⟩,
      ⟨some 39, .cp (.t 38), none⟩,
      ⟨some 40, .fa 1 (.t 3), some (39, false)⟩,
      ⟨some 41, .fa 2 (.t 40), some (39, false)⟩,
      ⟨some 42, .ld (some 2) (.t 41), some (39, false)⟩,
      ⟨some 43, .fa 1 (.t 2), some (39, false)⟩,
      ⟨some 44, .ld (some 2) (.t 43), some (39, false)⟩,
      ⟨some 45, .eqA true [.i, .i] (.t 42) (.t 44), some (39, false)⟩,
      ⟨some 46, .pick (.t 39) (.c (.bool true)) (.t 45), none⟩,
      ⟨some 47, .cp (.t 46), none⟩,
      ⟨some 48, .fa 1 (.t 2), some (47, false)⟩,
      ⟨some 49, .ld (some 2) (.t 48), some (47, false)⟩,
      ⟨some 50, .call 50 [.t 49], some (47, false)⟩,
      ⟨some 51, .pick (.t 47) (.c (.bool true)) (.t 50), none⟩]) (
  .cond (.t 51) (
    .seq (.reg [⟨some 52, .ld (some 12) (.t 2), none⟩,
        ⟨none, .st 12 (.t 4) (.t 52), none⟩,
        ⟨some 5, .cp (.c (.int .i64 0)), none⟩]) (
    .ret)) (
    .skip))) (
  .seq (.reg [⟨some 53, .fa 0 (.t 2), none⟩,
      ⟨none, .st 1 (.t 53) (.c (.int .i64 2)), none⟩]) (
  .seq (.reg [⟨some 54, .ld (some 12) (.t 2), none⟩,
      ⟨none, .st 12 (.t 4) (.t 54), none⟩,
      ⟨some 5, .cp (.c (.int .i64 1)), none⟩]) (
  .ret))))))))
def af48 : AFn := ⟨55, 4, [.c 4 (some 12), .t 5], a48⟩
theorem ak48 : chkF Try.prog 48 af48 = true := by kernel_rfl

-- f49 fingerpost/epoch.Newer  boxes 2 notes []
def a49 : AC := .seq (.reg [⟨some 2, .box 0 2 (.t 0), none⟩,
      ⟨some 3, .box 1 2 (.t 1), none⟩,
      ⟨some 4, .cp (.c (.bool false)), none⟩]) (
  .seq (.seq (.reg [⟨some 5, .fa 0 (.t 2), none⟩,
      ⟨some 6, .ld none (.t 5), none⟩,
      ⟨some 7, .fa 0 (.t 3), none⟩,
      ⟨some 8, .ld none (.t 7), none⟩,
      ⟨some 9, .bin .neq (.t 6) (.t 8), none⟩]) (
  .cond (.t 9) (
    .seq (.reg [⟨some 10, .fa 0 (.t 2), none⟩,
        ⟨some 11, .ld none (.t 10), none⟩,
        ⟨some 12, .fa 0 (.t 3), none⟩,
        ⟨some 13, .ld none (.t 12), none⟩,
        ⟨some 14, .bin .gtr (.t 11) (.t 13), none⟩,
        ⟨some 4, .cp (.t 14), none⟩]) (
    .ret)) (
    .skip))) (
  .seq (.reg [⟨some 15, .fa 1 (.t 2), none⟩,
      ⟨some 16, .ld none (.t 15), none⟩,
      ⟨some 17, .fa 1 (.t 3), none⟩,
      ⟨some 18, .ld none (.t 17), none⟩,
      ⟨some 19, .bin .gtr (.t 16) (.t 18), none⟩,
      ⟨some 4, .cp (.t 19), none⟩]) (
  .ret)))
def af49 : AFn := ⟨20, 2, [.t 4], a49⟩
theorem ak49 : chkF Try.prog 49 af49 = true := by kernel_rfl

-- f50 fingerpost/epoch.None  boxes 1 notes []
def a50 : AC := .seq (.reg [⟨some 1, .box 0 2 (.t 0), none⟩,
      ⟨some 2, .cp (.c (.bool false)), none⟩]) (
  .seq (.reg [⟨some 3, .ld (some 2) (.t 1), none⟩,
      ⟨some 4, .bld [.int .u32 0, .int .u32 0] [], none⟩,
      ⟨some 5, .eqA false [.i, .i] (.t 3) (.t 4), none⟩,
      ⟨some 2, .cp (.t 5), none⟩]) (
  .ret))
def af50 : AFn := ⟨6, 1, [.t 2], a50⟩
theorem ak50 : chkF Try.prog 50 af50 = true := by kernel_rfl

-- f51 fingerpost/fingerpostlaw20.Shaken  boxes 6 notes []
def a51 : AC := .seq (.reg [⟨some 2, .box 0 2 (.t 0), none⟩,
      ⟨some 3, .box 1 2 (.t 1), none⟩,
      ⟨some 4, .alloc 2 12 [.int .i64 0, .int .u32 0, .int .u32 0, .int .u32 0, .int .u32 0, .int .i64 0, .int .i64 0, .int .i64 0, .sl .own 4 [], .int .i64 0, .sl .own 8 [], .sl .own 4 []], none⟩,
      ⟨some 5, .alloc 3 12 [.int .i64 0, .int .u32 0, .int .u32 0, .int .u32 0, .int .u32 0, .int .i64 0, .int .i64 0, .int .i64 0, .sl .own 4 [], .int .i64 0, .sl .own 8 [], .sl .own 4 []], none⟩,
      ⟨some 6, .cp (.c (.bool false)), none⟩]) (
  .seq (.drw [⟨some 12, .call 47 [], none⟩,
      ⟨some 13, .ld (some 2) (.t 2), none⟩,
      ⟨some 14, .bld [.int .u32 0, .int .u32 0] [], none⟩,
      ⟨some 15, .call 46 [.t 12, .t 13, .t 14], none⟩,
      ⟨some 7, .alloc 4 12 [.int .i64 0, .int .u32 0, .int .u32 0, .int .u32 0, .int .u32 0, .int .i64 0, .int .i64 0, .int .i64 0, .sl .own 4 [], .int .i64 0, .sl .own 8 [], .sl .own 4 []], none⟩,
      ⟨none, .st 12 (.t 7) (.t 15), none⟩] []) (
  .seq (.drw [⟨some 16, .call 47 [], none⟩,
      ⟨some 17, .ld (some 2) (.t 3), none⟩,
      ⟨some 18, .bld [.int .u32 0, .int .u32 0] [], none⟩,
      ⟨some 19, .call 46 [.t 16, .t 17, .t 18], none⟩,
      ⟨some 8, .alloc 5 12 [.int .i64 0, .int .u32 0, .int .u32 0, .int .u32 0, .int .u32 0, .int .i64 0, .int .i64 0, .int .i64 0, .sl .own 4 [], .int .i64 0, .sl .own 8 [], .sl .own 4 []], none⟩,
      ⟨none, .st 12 (.t 8) (.t 19), none⟩] []) (
  .seq (.drw [⟨some 21, .ld (some 12) (.t 8), none⟩,
      ⟨some 22, .ld (some 12) (.t 7), none⟩,
      ⟨some 23, .call 55 [.c (.int .i64 1), .t 22], none⟩,
      ⟨some 24, .call 48 [.t 21, .t 23], none⟩,
      ⟨some 20, .cp (.t 24), none⟩,
      ⟨some 25, .ext (.t 20) 0, none⟩,
      ⟨some 26, .ext (.t 20) 1, none⟩,
      ⟨none, .st 12 (.t 8) (.t 25), none⟩,
      ⟨some 9, .cp (.t 26), none⟩] []) (
  .seq (.drw [⟨some 28, .ld (some 12) (.t 7), none⟩,
      ⟨some 29, .ld (some 12) (.t 8), none⟩,
      ⟨some 30, .call 55 [.c (.int .i64 2), .t 29], none⟩,
      ⟨some 31, .call 48 [.t 28, .t 30], none⟩,
      ⟨some 27, .cp (.t 31), none⟩,
      ⟨some 32, .ext (.t 27) 0, none⟩,
      ⟨some 33, .ext (.t 27) 1, none⟩,
      ⟨none, .st 12 (.t 7) (.t 32), none⟩,
      ⟨some 10, .cp (.t 33), none⟩] []) (
  .seq (.drw [⟨some 35, .ld (some 12) (.t 8), none⟩,
      ⟨some 36, .ld (some 12) (.t 7), none⟩,
      ⟨some 37, .call 55 [.c (.int .i64 1), .t 36], none⟩,
      ⟨some 38, .call 48 [.t 35, .t 37], none⟩,
      ⟨some 34, .cp (.t 38), none⟩,
      ⟨some 39, .ext (.t 34) 0, none⟩,
      ⟨some 40, .ext (.t 34) 1, none⟩,
      ⟨none, .st 12 (.t 8) (.t 39), none⟩,
      ⟨some 11, .cp (.t 40), none⟩] []) (
  .seq (.drw [⟨some 41, .ld (some 12) (.t 7), none⟩,
      ⟨some 42, .ld (some 12) (.t 8), none⟩,
      ⟨some 43, .cp (.t 9), none⟩,
      ⟨some 44, .bin .eql (.t 43) (.c (.int .i64 0)), none⟩,
      ⟨some 45, .cp (.t 44), none⟩,
      ⟨some 46, .cp (.t 10), some (45, true)⟩,
      ⟨some 47, .bin .eql (.t 46) (.c (.int .i64 1)), some (45, true)⟩,
      ⟨some 48, .pick (.t 45) (.t 47) (.c (.bool false)), none⟩,
      ⟨some 49, .cp (.t 48), none⟩,
      ⟨some 50, .cp (.t 11), some (49, true)⟩,
      ⟨some 51, .bin .eql (.t 50) (.c (.int .i64 1)), some (49, true)⟩,
      ⟨some 52, .pick (.t 49) (.t 51) (.c (.bool false)), none⟩,
      ⟨none, .st 12 (.t 4) (.t 41), none⟩,
      ⟨none, .st 12 (.t 5) (.t 42), none⟩,
      ⟨some 6, .cp (.t 52), none⟩] [(8, 4)]) (
  .ret)))))))
def af51 : AFn := ⟨53, 6, [.c 4 (some 12), .c 5 (some 12), .t 6], a51⟩
theorem ak51 : chkF Try.prog 51 af51 = true := by kernel_rfl

-- f52 fingerpost/shake.Holds  boxes 2 notes []
def a52 : AC := .seq (.reg [⟨some 2, .box 0 12 (.t 0), none⟩,
      ⟨some 3, .box 1 4 (.t 1), none⟩,
      ⟨some 4, .cp (.c (.bool false)), none⟩]) (
  .seq (.drw [⟨some 5, .fa 0 (.t 2), none⟩,
      ⟨some 6, .ld none (.t 5), none⟩,
      ⟨some 7, .bin .eql (.t 6) (.c (.int .i64 2)), none⟩,
      ⟨some 8, .cp (.t 7), none⟩,
      ⟨some 9, .ld (some 12) (.t 2), some (8, true)⟩,
      ⟨some 10, .call 53 [.t 9], some (8, true)⟩,
      ⟨some 11, .ld (some 4) (.t 3), some (8, true)⟩,
      ⟨some 12, .call 106 [.t 10, .t 11], some (8, true)⟩,
      ⟨some 13, .pick (.t 8) (.t 12) (.c (.bool false)), none⟩,
      ⟨some 4, .cp (.t 13), none⟩] []) (
  .ret))
def af52 : AFn := ⟨14, 2, [.t 4], a52⟩
theorem ak52 : chkF Try.prog 52 af52 = true := by kernel_rfl

-- f53 fingerpost/shake.Pair  boxes 2 notes []
def a53 : AC := .seq (.reg [⟨some 1, .box 0 12 (.t 0), none⟩,
      ⟨some 2, .alloc 1 4 [.int .u32 0, .int .u32 0, .int .u32 0, .int .u32 0], none⟩]) (
  .seq (.reg [⟨some 3, .fa 1 (.t 1), none⟩,
      ⟨some 4, .ld (some 2) (.t 3), none⟩,
      ⟨some 5, .fa 3 (.t 1), none⟩,
      ⟨some 6, .ld (some 2) (.t 5), none⟩,
      ⟨some 7, .bld [.int .u32 0, .int .u32 0, .int .u32 0, .int .u32 0] [(0, 2, .t 4), (2, 2, .t 6)], none⟩,
      ⟨none, .st 4 (.t 2) (.t 7), none⟩]) (
  .ret))
def af53 : AFn := ⟨8, 2, [.c 2 (some 4)], a53⟩
theorem ak53 : chkF Try.prog 53 af53 = true := by kernel_rfl

-- f54 fingerpost/epoch.Next  boxes 2 notes []
def a54 : AC := .seq (.reg [⟨some 1, .box 0 2 (.t 0), none⟩,
      ⟨some 2, .alloc 1 2 [.int .u32 0, .int .u32 0], none⟩,
      ⟨some 3, .cp (.c (.int .i64 0)), none⟩]) (
  .seq (.seq (.reg [⟨some 4, .fa 1 (.t 1), none⟩,
      ⟨some 5, .ld none (.t 4), none⟩,
      ⟨some 6, .bin .eql (.t 5) (.c (.int .u32 4294967295)), none⟩]) (
  .cond (.t 6) (
    .seq (.reg [⟨some 7, .bld [.int .u32 0, .int .u32 0] [], none⟩,
        ⟨none, .st 2 (.t 2) (.t 7), none⟩,
        ⟨some 3, .cp (.c (.int .i64 11)), none⟩]) (
    .ret)) (
    .skip))) (
  .seq (.reg [⟨some 8, .fa 1 (.t 1), none⟩,
      ⟨some 9, .ld none (.t 8), none⟩,
      ⟨some 10, .bin .add (.t 9) (.c (.int .u32 1)), none⟩,
      ⟨some 11, .fa 1 (.t 1), none⟩,
      ⟨none, .st 1 (.t 11) (.t 10), none⟩]) (
  .seq (.reg [⟨some 12, .ld (some 2) (.t 1), none⟩,
      ⟨none, .st 2 (.t 2) (.t 12), none⟩,
      ⟨some 3, .cp (.c (.int .i64 0)), none⟩]) (
  .ret))))
def af54 : AFn := ⟨13, 2, [.c 2 (some 2), .t 3], a54⟩
theorem ak54 : chkF Try.prog 54 af54 = true := by kernel_rfl

-- f55 fingerpost/fingerpostlaw20.Told  boxes 2 notes []
def a55 : AC := .seq (.reg [⟨some 3, .box 0 12 (.t 1), none⟩,
      ⟨some 4, .alloc 1 5 [.int .i64 0, .int .u32 0, .int .u32 0, .int .u32 0, .int .u32 0], none⟩]) (
  .seq (.reg [⟨some 5, .cp (.t 0), none⟩,
      ⟨some 6, .ld (some 12) (.t 3), none⟩,
      ⟨some 7, .call 53 [.t 6], none⟩,
      ⟨some 8, .bld [.int .i64 0, .int .u32 0, .int .u32 0, .int .u32 0, .int .u32 0] [(0, 1, .t 5), (1, 4, .t 7)], none⟩,
      ⟨none, .st 5 (.t 4) (.t 8), none⟩]) (
  .ret))
def af55 : AFn := ⟨9, 2, [.c 4 (some 5)], a55⟩
theorem ak55 : chkF Try.prog 55 af55 = true := by kernel_rfl

-- f76 fingerpost/window.New  boxes 1 notes []
def a76 : AC := .seq (.reg [⟨some 0, .alloc 0 2 [.int .i64 0, .sl .own 8 []], none⟩]) (
  .seq (.reg [⟨some 1, .bld [.int .i64 0, .sl .own 8 []] [], none⟩,
      ⟨none, .st 2 (.t 0) (.t 1), none⟩]) (
  .ret))
def af76 : AFn := ⟨2, 1, [.c 0 (some 2)], a76⟩
theorem ak76 : chkF Try.prog 76 af76 = true := by kernel_rfl

-- f80 fingerpost/window.Same  boxes 2 notes []
def a80 : AC := .seq (.reg [⟨some 2, .box 0 2 (.t 0), none⟩,
      ⟨some 3, .box 1 2 (.t 1), none⟩,
      ⟨some 4, .cp (.c (.bool false)), none⟩]) (
  .seq (.reg [⟨some 5, .fa 0 (.t 2), none⟩,
      ⟨some 6, .ld none (.t 5), none⟩,
      ⟨some 7, .fa 0 (.t 3), none⟩,
      ⟨some 8, .ld none (.t 7), none⟩,
      ⟨some 9, .bin .eql (.t 6) (.t 8), none⟩,
      ⟨some 10, .cp (.t 9), none⟩,
      ⟨some 11, .fa 1 (.t 2), some (10, true)⟩,
      ⟨some 12, .ld none (.t 11), some (10, true)⟩,
      ⟨some 13, .fa 1 (.t 3), some (10, true)⟩,
      ⟨some 14, .ld none (.t 13), some (10, true)⟩,
      ⟨some 15, .call 118 [.t 12, .t 14, .c .top], some (10, true)⟩,
      ⟨some 16, .pick (.t 10) (.t 15) (.c (.bool false)), none⟩,
      ⟨some 4, .cp (.t 16), none⟩]) (
  .ret))
def af80 : AFn := ⟨17, 2, [.t 4], a80⟩
theorem ak80 : chkF Try.prog 80 af80 = true := by kernel_rfl

-- f101 fingerpost/resend.Same  boxes 0 notes []
def a101 : AC := .seq (.reg [⟨some 4, .cp (.c (.bool false)), none⟩]) (
  .seq (.reg [⟨some 5, .tk 0, none⟩,
      ⟨some 6, .tk 1, none⟩,
      ⟨some 7, .call 129 [.t 5, .t 6], none⟩,
      ⟨some 4, .cp (.t 7), none⟩]) (
  .ret))
def af101 : AFn := ⟨8, 0, [.t 4], a101⟩
theorem ak101 : chkF Try.prog 101 af101 = true := by kernel_rfl

-- f102 fingerpost/fingerpostlaw20.ep  boxes 1 notes []
def a102 : AC := .seq (.reg [⟨some 4, .alloc 0 2 [.int .u32 0, .int .u32 0], none⟩]) (
  .seq (.reg [⟨some 5, .cp (.t 0), none⟩,
      ⟨some 6, .cp (.t 1), none⟩,
      ⟨some 7, .bld [.int .u32 0, .int .u32 0] [(0, 1, .t 5), (1, 1, .t 6)], none⟩,
      ⟨none, .st 2 (.t 4) (.t 7), none⟩]) (
  .ret))
def af102 : AFn := ⟨8, 1, [.c 4 (some 2)], a102⟩
theorem ak102 : chkF Try.prog 102 af102 = true := by kernel_rfl

-- f103 fingerpost/shake.Same  boxes 2 notes []
def a103 : AC := .seq (.reg [⟨some 2, .box 0 12 (.t 0), none⟩,
      ⟨some 3, .box 1 12 (.t 1), none⟩,
      ⟨some 4, .cp (.c (.bool false)), none⟩]) (
  .seq (.drw [⟨some 5, .fa 0 (.t 2), none⟩,
      ⟨some 6, .ld none (.t 5), none⟩,
      ⟨some 7, .fa 0 (.t 3), none⟩,
      ⟨some 8, .ld none (.t 7), none⟩,
      ⟨some 9, .bin .eql (.t 6) (.t 8), none⟩,
      ⟨some 10, .cp (.t 9), none⟩,
      ⟨some 11, .ld (some 12) (.t 2), some (10, true)⟩,
      ⟨some 12, .call 53 [.t 11], some (10, true)⟩,
      ⟨some 13, .ld (some 12) (.t 3), some (10, true)⟩,
      ⟨some 14, .call 53 [.t 13], some (10, true)⟩,
      ⟨some 15, .eqA false [.i, .i, .i, .i] (.t 12) (.t 14), some (10, true)⟩,
      ⟨some 16, .pick (.t 10) (.t 15) (.c (.bool false)), none⟩,
      ⟨some 17, .cp (.t 16), none⟩,
      ⟨some 18, .fa 5 (.t 2), some (17, true)⟩,
      ⟨some 19, .ld none (.t 18), some (17, true)⟩,
      ⟨some 20, .fa 5 (.t 3), some (17, true)⟩,
      ⟨some 21, .ld none (.t 20), some (17, true)⟩,
      ⟨some 22, .bin .eql (.t 19) (.t 21), some (17, true)⟩,
      ⟨some 23, .pick (.t 17) (.t 22) (.c (.bool false)), none⟩,
      ⟨some 24, .cp (.t 23), none⟩,
      ⟨some 25, .fa 6 (.t 2), some (24, true)⟩,
      ⟨some 26, .ld none (.t 25), some (24, true)⟩,
      ⟨some 27, .fa 6 (.t 3), some (24, true)⟩,
      ⟨some 28, .ld none (.t 27), some (24, true)⟩,
      ⟨some 29, .bin .eql (.t 26) (.t 28), some (24, true)⟩,
      ⟨some 30, .pick (.t 24) (.t 29) (.c (.bool false)), none⟩,
      ⟨some 31, .cp (.t 30), none⟩,
      ⟨some 32, .fa 7 (.t 2), some (31, true)⟩,
      ⟨some 33, .ld (some 5) (.t 32), some (31, true)⟩,
      ⟨some 34, .fa 7 (.t 3), some (31, true)⟩,
      ⟨some 35, .ld (some 5) (.t 34), some (31, true)⟩,
      ⟨some 36, .call 130 [.t 33, .t 35], some (31, true)⟩,
      ⟨some 37, .pick (.t 31) (.t 36) (.c (.bool false)), none⟩,
      ⟨some 4, .cp (.t 37), none⟩] []) (
  .ret))
def af103 : AFn := ⟨38, 2, [.t 4], a103⟩
theorem ak103 : chkF Try.prog 103 af103 = true := by kernel_rfl

-- f104 fingerpost/mrl.New  boxes 1 notes []
def a104 : AC := .seq (.reg [⟨some 0, .alloc 0 5 [.int .i64 0, .sl .own 4 [], .int .i64 0, .sl .own 8 [], .sl .own 4 []], none⟩]) (
  .seq (.reg [⟨some 1, .call 76 [], none⟩,
      ⟨some 2, .bld [.int .i64 0, .sl .own 4 [], .int .i64 0, .sl .own 8 [], .sl .own 4 []] [(2, 2, .t 1)], none⟩,
      ⟨none, .st 5 (.t 0) (.t 2), none⟩]) (
  .ret))
def af104 : AFn := ⟨3, 1, [.c 0 (some 5)], a104⟩
theorem ak104 : chkF Try.prog 104 af104 = true := by kernel_rfl

-- f105 fingerpost/hello.Right  boxes 1 notes []
def a105 : AC := .seq (.reg [⟨some 1, .box 0 5 (.t 0), none⟩,
      ⟨some 2, .cp (.c (.bool false)), none⟩]) (
  .seq (.reg [⟨some 3, .fa 0 (.t 1), none⟩,
      ⟨some 4, .ld none (.t 3), none⟩,
      ⟨some 5, .call 126 [.t 4], none⟩,
      ⟨some 6, .cp (.t 5), none⟩,
      ⟨some 7, .fa 1 (.t 1), some (6, true)⟩,
      ⟨some 8, .fa 0 (.t 7), some (6, true)⟩,
      ⟨some 9, .ld (some 2) (.t 8), some (6, true)⟩,
      ⟨some 10, .call 50 [.t 9], some (6, true)⟩,
      ⟨some 11, .un .not (.t 10), some (6, true)⟩,
      ⟨some 12, .pick (.t 6) (.t 11) (.c (.bool false)), none⟩,
      ⟨some 2, .cp (.t 12), none⟩]) (
  .ret))
def af105 : AFn := ⟨13, 1, [.t 2], a105⟩
theorem ak105 : chkF Try.prog 105 af105 = true := by kernel_rfl

-- f106 fingerpost/epoch.Same  boxes 2 notes []
def a106 : AC := .seq (.reg [⟨some 2, .box 0 4 (.t 0), none⟩,
      ⟨some 3, .box 1 4 (.t 1), none⟩,
      ⟨some 4, .cp (.c (.bool false)), none⟩]) (
  .seq (.drw [⟨some 5, .ld (some 4) (.t 2), none⟩,
      ⟨some 6, .ld (some 4) (.t 3), none⟩,
      ⟨some 7, .call 131 [.t 6], none⟩,
      ⟨some 8, .eqA false [.i, .i, .i, .i] (.t 5) (.t 7), none⟩,
      ⟨some 9, .cp (.t 8), none⟩,
      ⟨some 10, .fa 0 (.t 2), some (9, true)⟩,
      ⟨some 11, .ld (some 2) (.t 10), some (9, true)⟩,
      ⟨some 12, .call 50 [.t 11], some (9, true)⟩,
      ⟨some 13, .un .not (.t 12), some (9, true)⟩,
      ⟨some 14, .pick (.t 9) (.t 13) (.c (.bool false)), none⟩,
      ⟨some 15, .cp (.t 14), none⟩,
      ⟨some 16, .fa 2 (.t 2), some (15, true)⟩,
      ⟨some 17, .ld (some 2) (.t 16), some (15, true)⟩,
      ⟨some 18, .call 50 [.t 17], some (15, true)⟩,
      ⟨some 19, .un .not (.t 18), some (15, true)⟩,
      ⟨some 20, .pick (.t 15) (.t 19) (.c (.bool false)), none⟩,
      ⟨some 4, .cp (.t 20), none⟩] []) (
  .ret))
def af106 : AFn := ⟨21, 2, [.t 4], a106⟩
theorem ak106 : chkF Try.prog 106 af106 = true := by kernel_rfl

-- f118 slices.EqualFunc[[]fingerpost/api.Part,[]fingerpost/api.Part,fingerpost/api.Part,fingerpost/api.Part]  boxes 2 notes ["Op.call 'call'"]
def a118_l0 : AC := .seq (.reg [⟨some 18, .bin .lss (.t 17) (.t 16), none⟩]) (
  .seq (.cond (.t 18) (
    .skip) (
    .exit 0)) (
  .seq (.block 1 (
    .seq (.reg [⟨some 19, .cp (.t 17), none⟩,
        ⟨some 20, .ia 8 none (.t 15) (.t 17), none⟩,
        ⟨some 21, .ld (some 8) (.t 20), none⟩,
        ⟨some 8, .alloc 0 8 [.int .i64 0, .int .u32 0, .int .u32 0, .int .u32 0, .int .u32 0, .int .i64 0, .bool false, .sl .own 4 []], none⟩,
        ⟨some 7, .cp (.t 19), none⟩,
        ⟨none, .st 8 (.t 8) (.t 21), none⟩]) (
    .seq (.reg [⟨some 22, .cp (.t 1), none⟩,
        ⟨some 23, .cp (.t 7), none⟩,
        ⟨some 24, .ia 8 none (.t 22) (.t 23), none⟩,
        ⟨some 25, .ld (some 8) (.t 24), none⟩,
        ⟨some 9, .alloc 1 8 [.int .i64 0, .int .u32 0, .int .u32 0, .int .u32 0, .int .u32 0, .int .i64 0, .bool false, .sl .own 4 []], none⟩,
        ⟨none, .st 8 (.t 9) (.t 25), none⟩]) (
    .seq (.reg [⟨some 26, .cp (.t 2), none⟩,
        ⟨some 27, .ld (some 8) (.t 8), none⟩,
        ⟨some 28, .ld (some 8) (.t 9), none⟩,
        ⟨some 29, .bad, none⟩,
        ⟨some 30, .un .not (.t 29), none⟩]) (
    .cond (.t 30) (
      .seq (.reg [⟨some 6, .cp (.c (.bool false)), none⟩]) (
      .ret)) (
      .skip)))))) (
  .reg [⟨some 31, .bin .add (.t 17) (.c (.int .i64 1)), none⟩,
      ⟨some 17, .cp (.t 31), none⟩])))
def a118 : AC := .seq (.reg [⟨some 6, .cp (.c (.bool false)), none⟩]) (
  .seq (.seq (.reg [⟨some 10, .cp (.t 0), none⟩,
      ⟨some 11, .len (.t 10), none⟩,
      ⟨some 12, .cp (.t 1), none⟩,
      ⟨some 13, .len (.t 12), none⟩,
      ⟨some 14, .bin .neq (.t 11) (.t 13), none⟩]) (
  .cond (.t 14) (
    .seq (.reg [⟨some 6, .cp (.c (.bool false)), none⟩]) (
    .ret)) (
    .skip))) (
  .seq (.seq (.reg [⟨some 15, .tk 0, none⟩,
      ⟨some 16, .len (.t 15), none⟩,
      ⟨some 17, .cp (.c (.int .i64 0)), none⟩]) (
  .block 0 (
    .loop [false, false, false, false, false, false, true, true, true, true, false, false, false, false, false, false, false, false, true, true, true, true, true, true, true, true, true, true, true, true, true, true] [0, 1] a118_l0))) (
  .seq (.reg [⟨some 6, .cp (.c (.bool true)), none⟩]) (
  .ret))))
def af118 : AFn := ⟨32, 2, [.t 6], a118⟩
theorem ak118 : chkF Try.prog 118 af118 = true := by kernel_rfl

-- f119 fingerpost/part.Same  boxes 2 notes []
def a119 : AC := .seq (.reg [⟨some 2, .box 0 8 (.t 0), none⟩,
      ⟨some 3, .box 1 8 (.t 1), none⟩,
      ⟨some 4, .cp (.c (.bool false)), none⟩]) (
  .seq (.reg [⟨some 5, .fa 0 (.t 2), none⟩,
      ⟨some 6, .ld none (.t 5), none⟩,
      ⟨some 7, .fa 0 (.t 3), none⟩,
      ⟨some 8, .ld none (.t 7), none⟩,
      ⟨some 9, .bin .eql (.t 6) (.t 8), none⟩,
      ⟨some 10, .cp (.t 9), none⟩,
      ⟨some 11, .fa 1 (.t 2), some (10, true)⟩,
      ⟨some 12, .ld (some 4) (.t 11), some (10, true)⟩,
      ⟨some 13, .fa 1 (.t 3), some (10, true)⟩,
      ⟨some 14, .ld (some 4) (.t 13), some (10, true)⟩,
      ⟨some 15, .eqA false [.i, .i, .i, .i] (.t 12) (.t 14), some (10, true)⟩,
      ⟨some 16, .pick (.t 10) (.t 15) (.c (.bool false)), none⟩,
      ⟨some 17, .cp (.t 16), none⟩,
      ⟨some 18, .fa 5 (.t 2), some (17, true)⟩,
      ⟨some 19, .ld none (.t 18), some (17, true)⟩,
      ⟨some 20, .fa 5 (.t 3), some (17, true)⟩,
      ⟨some 21, .ld none (.t 20), some (17, true)⟩,
      ⟨some 22, .bin .eql (.t 19) (.t 21), some (17, true)⟩,
      ⟨some 23, .pick (.t 17) (.t 22) (.c (.bool false)), none⟩,
      ⟨some 24, .cp (.t 23), none⟩,
      ⟨some 25, .fa 6 (.t 2), some (24, true)⟩,
      ⟨some 26, .ld none (.t 25), some (24, true)⟩,
      ⟨some 27, .fa 6 (.t 3), some (24, true)⟩,
      ⟨some 28, .ld none (.t 27), some (24, true)⟩,
      ⟨some 29, .eqB false (.t 26) (.t 28), some (24, true)⟩,
      ⟨some 30, .pick (.t 24) (.t 29) (.c (.bool false)), none⟩,
      ⟨some 31, .cp (.t 30), none⟩,
      ⟨some 32, .fa 7 (.t 2), some (31, true)⟩,
      ⟨some 33, .ld none (.t 32), some (31, true)⟩,
      ⟨some 34, .fa 7 (.t 3), some (31, true)⟩,
      ⟨some 35, .ld none (.t 34), some (31, true)⟩,
      ⟨some 36, .call 134 [.t 33, .t 35], some (31, true)⟩,
      ⟨some 37, .pick (.t 31) (.t 36) (.c (.bool false)), none⟩,
      ⟨some 4, .cp (.t 37), none⟩]) (
  .ret))
def af119 : AFn := ⟨38, 2, [.t 4], a119⟩
theorem ak119 : chkF Try.prog 119 af119 = true := by kernel_rfl

-- f126 fingerpost/nodes.Right  boxes 0 notes []
def a126 : AC := .seq (.reg [⟨some 2, .cp (.c (.bool false)), none⟩]) (
  .seq (.reg [⟨some 3, .cp (.t 0), none⟩,
      ⟨some 4, .bin .geq (.t 3) (.c (.int .i64 0)), none⟩,
      ⟨some 5, .cp (.t 4), none⟩,
      ⟨some 6, .cp (.t 0), some (5, true)⟩,
      ⟨some 7, .bin .lss (.t 6) (.c (.int .i64 16)), some (5, true)⟩,
      ⟨some 8, .pick (.t 5) (.t 7) (.c (.bool false)), none⟩,
      ⟨some 2, .cp (.t 8), none⟩]) (
  .ret))
def af126 : AFn := ⟨9, 0, [.t 2], a126⟩
theorem ak126 : chkF Try.prog 126 af126 = true := by kernel_rfl

-- f129 slices.Equal[[]fingerpost/api.Sent,fingerpost/api.Sent]  boxes 0 notes []
def a129_l0 : AC := .seq (.reg [⟨some 14, .bin .lss (.t 13) (.t 12), none⟩]) (
  .seq (.cond (.t 14) (
    .skip) (
    .exit 0)) (
  .seq (.block 1 (
    .seq (.reg [⟨some 15, .cp (.t 13), none⟩,
        ⟨some 5, .cp (.t 15), none⟩]) (
    .seq (.drw [⟨some 16, .cp (.t 0), none⟩,
        ⟨some 17, .cp (.t 5), none⟩,
        ⟨some 18, .ia 4 none (.t 16) (.t 17), none⟩,
        ⟨some 19, .ld (some 4) (.t 18), none⟩,
        ⟨some 20, .cp (.t 1), none⟩,
        ⟨some 21, .cp (.t 5), none⟩,
        ⟨some 22, .ia 4 none (.t 20) (.t 21), none⟩,
        ⟨some 23, .ld (some 4) (.t 22), none⟩,
        ⟨some 24, .eqA true [.i, .s, .i, .i] (.t 19) (.t 23), none⟩] []) (
    .cond (.t 24) (
      .seq (.reg [⟨some 4, .cp (.c (.bool false)), none⟩]) (
      .ret)) (
      .skip))))) (
  .reg [⟨some 25, .bin .add (.t 13) (.c (.int .i64 1)), none⟩,
      ⟨some 13, .cp (.t 25), none⟩])))
def a129 : AC := .seq (.reg [⟨some 4, .cp (.c (.bool false)), none⟩]) (
  .seq (.seq (.reg [⟨some 6, .cp (.t 0), none⟩,
      ⟨some 7, .len (.t 6), none⟩,
      ⟨some 8, .cp (.t 1), none⟩,
      ⟨some 9, .len (.t 8), none⟩,
      ⟨some 10, .bin .neq (.t 7) (.t 9), none⟩]) (
  .cond (.t 10) (
    .seq (.reg [⟨some 4, .cp (.c (.bool false)), none⟩]) (
    .ret)) (
    .skip))) (
  .seq (.seq (.reg [⟨some 11, .cp (.t 0), none⟩,
      ⟨some 12, .len (.t 11), none⟩,
      ⟨some 13, .cp (.c (.int .i64 0)), none⟩]) (
  .block 0 (
    .loop [false, false, false, false, true, true, false, false, false, false, false, false, false, false, true, true, true, true, true, true, true, true, true, true, true, true] [] a129_l0))) (
  .seq (.reg [⟨some 4, .cp (.c (.bool true)), none⟩]) (
  .ret))))
def af129 : AFn := ⟨26, 0, [.t 4], a129⟩
theorem ak129 : chkF Try.prog 129 af129 = true := by kernel_rfl

-- f130 fingerpost/mrl.Same  boxes 2 notes []
def a130 : AC := .seq (.reg [⟨some 2, .box 0 5 (.t 0), none⟩,
      ⟨some 3, .box 1 5 (.t 1), none⟩,
      ⟨some 4, .cp (.c (.bool false)), none⟩]) (
  .seq (.reg [⟨some 5, .fa 0 (.t 2), none⟩,
      ⟨some 6, .ld none (.t 5), none⟩,
      ⟨some 7, .fa 0 (.t 3), none⟩,
      ⟨some 8, .ld none (.t 7), none⟩,
      ⟨some 9, .bin .eql (.t 6) (.t 8), none⟩,
      ⟨some 10, .cp (.t 9), none⟩,
      ⟨some 11, .fa 1 (.t 2), some (10, true)⟩,
      ⟨some 12, .ld none (.t 11), some (10, true)⟩,
      ⟨some 13, .fa 1 (.t 3), some (10, true)⟩,
      ⟨some 14, .ld none (.t 13), some (10, true)⟩,
      ⟨some 15, .call 101 [.t 12, .t 14], some (10, true)⟩,
      ⟨some 16, .pick (.t 10) (.t 15) (.c (.bool false)), none⟩,
      ⟨some 17, .cp (.t 16), none⟩,
      ⟨some 18, .fa 2 (.t 2), some (17, true)⟩,
      ⟨some 19, .ld (some 2) (.t 18), some (17, true)⟩,
      ⟨some 20, .fa 2 (.t 3), some (17, true)⟩,
      ⟨some 21, .ld (some 2) (.t 20), some (17, true)⟩,
      ⟨some 22, .call 80 [.t 19, .t 21], some (17, true)⟩,
      ⟨some 23, .pick (.t 17) (.t 22) (.c (.bool false)), none⟩,
      ⟨some 24, .cp (.t 23), none⟩,
      ⟨some 25, .fa 4 (.t 2), some (24, true)⟩,
      ⟨some 26, .ld none (.t 25), some (24, true)⟩,
      ⟨some 27, .fa 4 (.t 3), some (24, true)⟩,
      ⟨some 28, .ld none (.t 27), some (24, true)⟩,
      ⟨some 29, .call 134 [.t 26, .t 28], some (24, true)⟩,
      ⟨some 30, .pick (.t 24) (.t 29) (.c (.bool false)), none⟩,
      ⟨some 4, .cp (.t 30), none⟩]) (
  .ret))
def af130 : AFn := ⟨31, 2, [.t 4], a130⟩
theorem ak130 : chkF Try.prog 130 af130 = true := by kernel_rfl

-- f131 fingerpost/epoch.Swap  boxes 2 notes []
def a131 : AC := .seq (.reg [⟨some 1, .box 0 4 (.t 0), none⟩,
      ⟨some 2, .alloc 1 4 [.int .u32 0, .int .u32 0, .int .u32 0, .int .u32 0], none⟩]) (
  .seq (.reg [⟨some 3, .fa 2 (.t 1), none⟩,
      ⟨some 4, .ld (some 2) (.t 3), none⟩,
      ⟨some 5, .fa 0 (.t 1), none⟩,
      ⟨some 6, .ld (some 2) (.t 5), none⟩,
      ⟨some 7, .bld [.int .u32 0, .int .u32 0, .int .u32 0, .int .u32 0] [(0, 2, .t 4), (2, 2, .t 6)], none⟩,
      ⟨none, .st 4 (.t 2) (.t 7), none⟩]) (
  .ret))
def af131 : AFn := ⟨8, 2, [.c 2 (some 4)], a131⟩
theorem ak131 : chkF Try.prog 131 af131 = true := by kernel_rfl

-- f134 slices.Equal[[]fingerpost/api.Item,fingerpost/api.Item]  boxes 0 notes []
def a134_l0 : AC := .seq (.reg [⟨some 14, .bin .lss (.t 13) (.t 12), none⟩]) (
  .seq (.cond (.t 14) (
    .skip) (
    .exit 0)) (
  .seq (.block 1 (
    .seq (.reg [⟨some 15, .cp (.t 13), none⟩,
        ⟨some 5, .cp (.t 15), none⟩]) (
    .seq (.drw [⟨some 16, .cp (.t 0), none⟩,
        ⟨some 17, .cp (.t 5), none⟩,
        ⟨some 18, .ia 4 none (.t 16) (.t 17), none⟩,
        ⟨some 19, .ld (some 4) (.t 18), none⟩,
        ⟨some 20, .cp (.t 1), none⟩,
        ⟨some 21, .cp (.t 5), none⟩,
        ⟨some 22, .ia 4 none (.t 20) (.t 21), none⟩,
        ⟨some 23, .ld (some 4) (.t 22), none⟩,
        ⟨some 24, .eqA true [.i, .i, .i, .i] (.t 19) (.t 23), none⟩] []) (
    .cond (.t 24) (
      .seq (.reg [⟨some 4, .cp (.c (.bool false)), none⟩]) (
      .ret)) (
      .skip))))) (
  .reg [⟨some 25, .bin .add (.t 13) (.c (.int .i64 1)), none⟩,
      ⟨some 13, .cp (.t 25), none⟩])))
def a134 : AC := .seq (.reg [⟨some 4, .cp (.c (.bool false)), none⟩]) (
  .seq (.seq (.reg [⟨some 6, .cp (.t 0), none⟩,
      ⟨some 7, .len (.t 6), none⟩,
      ⟨some 8, .cp (.t 1), none⟩,
      ⟨some 9, .len (.t 8), none⟩,
      ⟨some 10, .bin .neq (.t 7) (.t 9), none⟩]) (
  .cond (.t 10) (
    .seq (.reg [⟨some 4, .cp (.c (.bool false)), none⟩]) (
    .ret)) (
    .skip))) (
  .seq (.seq (.reg [⟨some 11, .cp (.t 0), none⟩,
      ⟨some 12, .len (.t 11), none⟩,
      ⟨some 13, .cp (.c (.int .i64 0)), none⟩]) (
  .block 0 (
    .loop [false, false, false, false, true, true, false, false, false, false, false, false, false, false, true, true, true, true, true, true, true, true, true, true, true, true] [] a134_l0))) (
  .seq (.reg [⟨some 4, .cp (.c (.bool true)), none⟩]) (
  .ret))))
def af134 : AFn := ⟨26, 0, [.t 4], a134⟩
theorem ak134 : chkF Try.prog 134 af134 = true := by kernel_rfl

end Go.Proofs.Ytmchbkmenokkdaa

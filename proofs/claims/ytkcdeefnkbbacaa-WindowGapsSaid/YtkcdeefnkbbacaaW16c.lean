/- The functions as data, and that they are the program's. -/
import Derived.Test.YtkcdeefnkbbacaaAwN
set_option maxRecDepth 100000
namespace Go.Proofs.Ytkcdeefnkbbacaa
open Go.RowKit
-- f12 fingerpost/fingerpostlaw16.WindowTurns  boxes 4 notes []
def a12_l1 : AC := .seq (.reg [⟨some 57, .bin .lss (.t 56) (.t 55), none⟩]) (
  .seq (.cond (.t 57) (
    .skip) (
    .exit 2)) (
  .seq (.block 3 (
    .seq (.reg [⟨some 58, .iaE 8 (.t 54) (.t 56), none⟩,
        ⟨some 59, .ld (some 8) (.t 58), none⟩,
        ⟨some 12, .alloc 3 8 [.int .i64 0, .int .u32 0, .int .u32 0, .int .u32 0, .int .u32 0, .int .i64 0, .bool false, .sl .own 4 []], none⟩,
        ⟨none, .st 8 (.t 12) (.t 59), none⟩]) (
    .seq (.seq (.reg [⟨some 60, .fa 5 (.t 12), none⟩,
        ⟨some 61, .ld none (.t 60), none⟩,
        ⟨some 62, .cp (.t 4), none⟩,
        ⟨some 63, .bin .neq (.t 61) (.t 62), none⟩]) (
    .cond (.t 63) (
      .seq (.reg [⟨some 2, .cp (.c (.bool false)), none⟩]) (
      .ret)) (
      .skip))) (
    .reg [⟨some 64, .cp (.t 4), none⟩,
        ⟨some 65, .bin .add (.t 64) (.c (.int .i64 1)), none⟩,
        ⟨some 4, .cp (.t 65), none⟩])))) (
  .reg [⟨some 66, .bin .add (.t 56) (.c (.int .i64 1)), none⟩,
      ⟨some 56, .cp (.t 66), none⟩])))
def a12_l0 : AC := .seq (.reg [⟨some 23, .bin .lss (.t 22) (.t 21), none⟩]) (
  .seq (.cond (.t 23) (
    .skip) (
    .exit 0)) (
  .seq (.block 1 (
    .seq (.reg [⟨some 24, .iaE 1 (.t 20) (.t 22), none⟩,
        ⟨some 25, .ld none (.t 24), none⟩,
        ⟨some 6, .cp (.t 25), none⟩]) (
    .seq (.reg [⟨some 26, .cp (.t 6), none⟩,
        ⟨some 27, .bin .and (.t 26) (.c (.int .i64 31)), none⟩,
        ⟨some 28, .call 60 [.t 27], none⟩,
        ⟨some 7, .alloc 1 8 [.int .i64 0, .int .u32 0, .int .u32 0, .int .u32 0, .int .u32 0, .int .i64 0, .bool false, .sl .own 4 []], none⟩,
        ⟨none, .st 8 (.t 7) (.t 28), none⟩]) (
    .seq (.reg [⟨some 30, .ld (some 2) (.t 3), none⟩,
        ⟨some 31, .ld (some 8) (.t 7), none⟩,
        ⟨some 32, .call 61 [.t 30, .t 31], none⟩,
        ⟨some 29, .tk 32, none⟩,
        ⟨some 33, .ext (.t 29) 0, none⟩,
        ⟨some 34, .extt 29 1, none⟩,
        ⟨some 35, .ext (.t 29) 2, none⟩,
        ⟨some 8, .alloc 2 2 [.int .i64 0, .sl .own 8 []], none⟩,
        ⟨none, .st 2 (.t 8) (.t 33), none⟩,
        ⟨some 9, .tk 34, none⟩,
        ⟨some 10, .cp (.t 35), none⟩]) (
    .seq (.seq (.reg [⟨some 36, .ld (some 2) (.t 8), none⟩,
        ⟨some 37, .call 62 [.t 36], none⟩,
        ⟨some 38, .un .not (.t 37), none⟩,
        ⟨some 39, .cp (.t 38), none⟩,
        ⟨some 40, .cp (.t 10), some (39, false)⟩,
        ⟨some 41, .bin .neq (.t 40) (.c (.int .i64 0)), some (39, false)⟩,
        ⟨some 42, .cp (.t 41), some (39, false)⟩,
        ⟨some 43, .cp (.t 9), some (42, true)⟩,
        ⟨some 44, .len (.t 43), some (42, true)⟩,
        ⟨some 45, .bin .neq (.t 44) (.c (.int .i64 0)), some (42, true)⟩,
        ⟨some 46, .cp (.t 45), some (42, true)⟩,
        ⟨some 47, .ld (some 2) (.t 8), some (46, false)⟩,
        ⟨some 48, .ld (some 2) (.t 3), some (46, false)⟩,
        ⟨some 49, .call 63 [.t 47, .t 48], some (46, false)⟩,
        ⟨some 50, .un .not (.t 49), some (46, false)⟩,
        ⟨some 51, .pick (.t 46) (.c (.bool true)) (.t 50), some (42, true)⟩,
        ⟨some 52, .pick (.t 42) (.t 51) (.c (.bool false)), some (39, false)⟩,
        ⟨some 53, .pick (.t 39) (.c (.bool true)) (.t 52), none⟩]) (
    .cond (.t 53) (
      .seq (.reg [⟨some 2, .cp (.c (.bool false)), none⟩]) (
      .ret)) (
      .skip))) (
    .seq (.seq (.reg [⟨some 54, .tk 9, none⟩,
        ⟨some 55, .len (.t 54), none⟩,
        ⟨some 56, .cp (.c (.int .i64 0)), none⟩]) (
    .block 2 (
      .loop [false, false, true, false, false, false, false, false, false, false, false, false, true, false, false, false, false, false, false, false, false, false, false, false, false, false, false, false, false, false, false, false, false, false, false, false, false, false, false, false, false, false, false, false, false, false, false, false, false, false, false, false, false, false, false, false, false, true, true, true, true, true, true, true, true, true, true] [3] a12_l1))) (
    .seq (.reg [⟨some 68, .ld (some 2) (.t 8), none⟩,
        ⟨some 69, .call 64 [.t 68], none⟩,
        ⟨some 67, .tk 69, none⟩,
        ⟨some 70, .ext (.t 67) 0, none⟩,
        ⟨some 71, .ext (.t 67) 1, none⟩,
        ⟨some 13, .cp (.t 70), none⟩,
        ⟨some 14, .cp (.t 71), none⟩]) (
    .seq (.seq (.reg [⟨some 72, .fa 0 (.t 8), none⟩,
        ⟨some 73, .ld none (.t 72), none⟩,
        ⟨some 74, .cp (.t 4), none⟩,
        ⟨some 75, .bin .neq (.t 73) (.t 74), none⟩,
        ⟨some 76, .cp (.t 75), none⟩,
        ⟨some 77, .cp (.t 13), some (76, false)⟩,
        ⟨some 78, .cp (.t 4), some (76, false)⟩,
        ⟨some 79, .bin .neq (.t 77) (.t 78), some (76, false)⟩,
        ⟨some 80, .pick (.t 76) (.c (.bool true)) (.t 79), none⟩,
        ⟨some 81, .cp (.t 80), none⟩,
        ⟨some 82, .cp (.t 10), some (81, false)⟩,
        ⟨some 83, .bin .eql (.t 82) (.c (.int .i64 0)), some (81, false)⟩,
        ⟨some 84, .cp (.t 83), some (81, false)⟩,
        ⟨some 85, .cp (.t 13), some (84, true)⟩,
        ⟨some 86, .cp (.t 14), some (84, true)⟩,
        ⟨some 87, .bld [.int .i64 0, .int .u32 0, .int .u32 0, .int .u32 0, .int .u32 0, .int .i64 0, .int .i64 0] [(5, 1, .t 85), (6, 1, .t 86)], some (84, true)⟩,
        ⟨some 88, .fa 5 (.t 7), some (84, true)⟩,
        ⟨some 89, .ld none (.t 88), some (84, true)⟩,
        ⟨some 90, .call 40 [.t 87, .t 89], some (84, true)⟩,
        ⟨some 91, .un .not (.t 90), some (84, true)⟩,
        ⟨some 92, .pick (.t 84) (.t 91) (.c (.bool false)), some (81, false)⟩,
        ⟨some 93, .pick (.t 81) (.c (.bool true)) (.t 92), none⟩]) (
    .cond (.t 93) (
      .seq (.reg [⟨some 2, .cp (.c (.bool false)), none⟩]) (
      .ret)) (
      .skip))) (
    .reg [⟨some 94, .ld (some 2) (.t 8), none⟩,
        ⟨none, .st 2 (.t 3) (.t 94), none⟩]))))))))) (
  .reg [⟨some 95, .bin .add (.t 22) (.c (.int .i64 1)), none⟩,
      ⟨some 22, .cp (.t 95), none⟩])))
def a12 : AC := .seq (.reg [⟨some 2, .cp (.c (.bool false)), none⟩]) (
  .seq (.seq (.reg [⟨some 15, .cp (.t 0), none⟩,
      ⟨some 16, .len (.t 15), none⟩,
      ⟨some 17, .bin .gtr (.t 16) (.c (.int .i64 100)), none⟩]) (
  .cond (.t 17) (
    .seq (.reg [⟨some 18, .call 58 [], none⟩,
        ⟨some 2, .cp (.t 18), none⟩]) (
    .ret)) (
    .skip))) (
  .seq (.reg [⟨some 19, .call 59 [], none⟩,
      ⟨some 3, .alloc 0 2 [.int .i64 0, .sl .own 8 []], none⟩,
      ⟨none, .st 2 (.t 3) (.t 19), none⟩]) (
  .seq (.reg [⟨some 4, .cp (.c (.int .i64 0)), none⟩]) (
  .seq (.seq (.reg [⟨some 20, .tk 0, none⟩,
      ⟨some 21, .len (.t 20), none⟩,
      ⟨some 22, .cp (.c (.int .i64 0)), none⟩]) (
  .block 0 (
    .loop [false, false, true, false, false, false, true, true, true, true, true, false, true, true, true, false, false, false, false, false, false, false, false, true, true, true, true, true, true, true, true, true, true, true, true, true, true, true, true, true, true, true, true, true, true, true, true, true, true, true, true, true, true, true, true, true, true, true, true, true, true, true, true, true, true, true, true, true, true, true, true, true, true, true, true, true, true, true, true, true, true, true, true, true, true, true, true, true, true, true, true, true, true, true, true, true] [1, 2, 3] a12_l0))) (
  .seq (.reg [⟨some 96, .call 58 [], none⟩,
      ⟨some 2, .cp (.t 96), none⟩]) (
  .ret))))))
def af12 : AFn := ⟨97, 4, [.t 2], a12⟩
theorem ak12 : chkF Try.prog 12 af12 = true := by kernel_rfl

-- f13 fingerpost/fingerpostlaw16.WindowGaps  boxes 4 notes []
def a13_l0 : AC := .seq (.reg [⟨some 47, .bin .lss (.t 46) (.t 45), none⟩]) (
  .seq (.cond (.t 47) (
    .skip) (
    .exit 0)) (
  .seq (.block 1 (
    .seq (.reg [⟨some 48, .cp (.t 46), none⟩,
        ⟨some 7, .cp (.t 48), none⟩]) (
    .seq (.drw [⟨some 49, .cp (.t 5), none⟩,
        ⟨some 50, .cp (.t 7), none⟩,
        ⟨some 51, .iaE 1 (.t 49) (.t 50), none⟩,
        ⟨some 52, .ld none (.t 51), none⟩,
        ⟨some 53, .cp (.t 6), none⟩,
        ⟨some 54, .cp (.t 7), none⟩,
        ⟨some 55, .iaE 1 (.t 53) (.t 54), none⟩,
        ⟨some 56, .ld none (.t 55), none⟩,
        ⟨some 57, .bin .neq (.t 52) (.t 56), none⟩] []) (
    .cond (.t 57) (
      .seq (.reg [⟨some 4, .cp (.c (.bool false)), none⟩]) (
      .ret)) (
      .skip))))) (
  .reg [⟨some 58, .bin .add (.t 46) (.c (.int .i64 1)), none⟩,
      ⟨some 46, .cp (.t 58), none⟩])))
def a13_l1 : AC := .seq (.reg [⟨some 63, .bin .lss (.t 62) (.t 61), none⟩]) (
  .seq (.cond (.t 63) (
    .skip) (
    .exit 2)) (
  .seq (.block 3 (
    .seq (.reg [⟨some 64, .iaE 1 (.t 60) (.t 62), none⟩,
        ⟨some 65, .ld none (.t 64), none⟩,
        ⟨some 10, .cp (.t 65), none⟩]) (
    .drw [⟨some 67, .ld (some 2) (.t 8), none⟩,
        ⟨some 68, .cp (.t 10), none⟩,
        ⟨some 69, .bin .and (.t 68) (.c (.int .i64 15)), none⟩,
        ⟨some 70, .call 60 [.t 69], none⟩,
        ⟨some 71, .call 61 [.t 67, .t 70], none⟩,
        ⟨some 66, .tk 71, none⟩,
        ⟨some 72, .ext (.t 66) 0, none⟩,
        ⟨some 73, .ext (.t 66) 1, none⟩,
        ⟨some 74, .ext (.t 66) 2, none⟩,
        ⟨none, .st 2 (.t 8) (.t 72), none⟩] []))) (
  .reg [⟨some 75, .bin .add (.t 62) (.c (.int .i64 1)), none⟩,
      ⟨some 62, .cp (.t 75), none⟩])))
def a13_l2 : AC := .seq (.reg [⟨some 82, .bin .lss (.t 81) (.t 80), none⟩]) (
  .seq (.cond (.t 82) (
    .skip) (
    .exit 4)) (
  .seq (.block 5 (
    .seq (.reg [⟨some 83, .iaE 8 (.t 79) (.t 81), none⟩,
        ⟨some 84, .ld (some 8) (.t 83), none⟩,
        ⟨some 13, .alloc 2 8 [.int .i64 0, .int .u32 0, .int .u32 0, .int .u32 0, .int .u32 0, .int .i64 0, .bool false, .sl .own 4 []], none⟩,
        ⟨none, .st 8 (.t 13) (.t 84), none⟩]) (
    .reg [⟨some 85, .fa 5 (.t 13), none⟩,
        ⟨some 86, .ld none (.t 85), none⟩,
        ⟨some 87, .bin .add (.t 86) (.c (.int .i64 1)), none⟩,
        ⟨some 11, .cp (.t 87), none⟩]))) (
  .reg [⟨some 88, .bin .add (.t 81) (.c (.int .i64 1)), none⟩,
      ⟨some 81, .cp (.t 88), none⟩])))
def a13_l3 : AC := .seq (.reg [⟨some 93, .bin .lss (.t 92) (.t 91), none⟩]) (
  .seq (.cond (.t 93) (
    .skip) (
    .exit 6)) (
  .seq (.block 7 (
    .seq (.reg [⟨some 94, .iaE 1 (.t 90) (.t 92), none⟩,
        ⟨some 95, .ld none (.t 94), none⟩,
        ⟨some 15, .cp (.t 95), none⟩]) (
    .seq (.drw [⟨some 97, .ld (some 2) (.t 8), none⟩,
        ⟨some 98, .cp (.t 15), none⟩,
        ⟨some 99, .call 60 [.t 98], none⟩,
        ⟨some 100, .call 61 [.t 97, .t 99], none⟩,
        ⟨some 96, .tk 100, none⟩,
        ⟨some 101, .ext (.t 96) 0, none⟩,
        ⟨some 102, .ext (.t 96) 1, none⟩,
        ⟨some 103, .ext (.t 96) 2, none⟩,
        ⟨some 16, .alloc 3 2 [.int .i64 0, .sl .own 8 []], none⟩,
        ⟨none, .st 2 (.t 16) (.t 101), none⟩,
        ⟨some 17, .tk 102, none⟩,
        ⟨some 18, .cp (.t 103), none⟩] []) (
    .seq (.seq (.reg [⟨some 104, .cp (.t 18), none⟩,
        ⟨some 105, .bin .neq (.t 104) (.c (.int .i64 0)), none⟩]) (
    .cond (.t 105) (
      .seq (.reg [⟨some 4, .cp (.c (.bool false)), none⟩]) (
      .ret)) (
      .skip))) (
    .reg [⟨some 106, .ld (some 2) (.t 16), none⟩,
        ⟨none, .st 2 (.t 8) (.t 106), none⟩]))))) (
  .reg [⟨some 107, .bin .add (.t 92) (.c (.int .i64 1)), none⟩,
      ⟨some 92, .cp (.t 107), none⟩])))
def a13 : AC := .seq (.reg [⟨some 2, .box 0 2 (.t 0), none⟩,
      ⟨some 4, .cp (.c (.bool false)), none⟩]) (
  .seq (.seq (.reg [⟨some 19, .fa 1 (.t 2), none⟩,
      ⟨some 20, .ld none (.t 19), none⟩,
      ⟨some 21, .call 65 [.t 20], none⟩,
      ⟨some 22, .cp (.t 21), none⟩,
      ⟨some 23, .cp (.t 1), some (22, false)⟩,
      ⟨some 24, .len (.t 23), some (22, false)⟩,
      ⟨some 25, .bin .gtr (.t 24) (.c (.int .i64 60)), some (22, false)⟩,
      ⟨some 26, .pick (.t 22) (.c (.bool true)) (.t 25), none⟩]) (
  .cond (.t 26) (
    .seq (.reg [⟨some 27, .call 58 [], none⟩,
        ⟨some 4, .cp (.t 27), none⟩]) (
    .ret)) (
    .skip))) (
  .seq (.drw [⟨some 28, .ld (some 2) (.t 2), none⟩,
      ⟨some 29, .call 66 [.t 28], none⟩,
      ⟨some 30, .ld (some 2) (.t 2), none⟩,
      ⟨some 31, .call 67 [.t 30], none⟩,
      ⟨some 5, .tk 29, none⟩,
      ⟨some 6, .tk 31, none⟩] []) (
  .seq (.seq (.drw [⟨some 32, .cp (.t 5), none⟩,
      ⟨some 33, .len (.t 32), none⟩,
      ⟨some 34, .cp (.t 6), none⟩,
      ⟨some 35, .len (.t 34), none⟩,
      ⟨some 36, .bin .neq (.t 33) (.t 35), none⟩,
      ⟨some 37, .cp (.t 36), none⟩,
      ⟨some 38, .ld (some 2) (.t 2), some (37, false)⟩,
      ⟨some 39, .call 68 [.t 38], some (37, false)⟩,
      ⟨some 40, .ld (some 2) (.t 2), some (37, false)⟩,
      ⟨some 41, .call 69 [.t 40], some (37, false)⟩,
      ⟨some 42, .bin .neq (.t 39) (.t 41), some (37, false)⟩,
      ⟨some 43, .pick (.t 37) (.c (.bool true)) (.t 42), none⟩] []) (
  .cond (.t 43) (
    .seq (.reg [⟨some 4, .cp (.c (.bool false)), none⟩]) (
    .ret)) (
    .skip))) (
  .seq (.seq (.reg [⟨some 44, .cp (.t 5), none⟩,
      ⟨some 45, .len (.t 44), none⟩,
      ⟨some 46, .cp (.c (.int .i64 0)), none⟩]) (
  .block 0 (
    .loop [false, false, false, false, true, false, false, true, false, false, false, false, false, false, false, false, false, false, false, false, false, false, false, false, false, false, false, false, false, false, false, false, false, false, false, false, false, false, false, false, false, false, false, false, false, false, false, true, true, true, true, true, true, true, true, true, true, true, true] [] a13_l0))) (
  .seq (.reg [⟨some 59, .call 59 [], none⟩,
      ⟨some 8, .alloc 1 2 [.int .i64 0, .sl .own 8 []], none⟩,
      ⟨none, .st 2 (.t 8) (.t 59), none⟩]) (
  .seq (.seq (.reg [⟨some 60, .tk 1, none⟩,
      ⟨some 61, .len (.t 60), none⟩,
      ⟨some 62, .cp (.c (.int .i64 0)), none⟩]) (
  .block 2 (
    .loop [false, false, false, false, false, false, false, false, false, false, true, false, false, false, false, false, false, false, false, false, false, false, false, false, false, false, false, false, false, false, false, false, false, false, false, false, false, false, false, false, false, false, false, false, false, false, false, false, false, false, false, false, false, false, false, false, false, false, false, false, false, false, false, true, true, true, true, true, true, true, true, true, true, true, true, true] [] a13_l1))) (
  .seq (.reg [⟨some 76, .fa 0 (.t 8), none⟩,
      ⟨some 77, .ld none (.t 76), none⟩,
      ⟨some 11, .cp (.t 77), none⟩]) (
  .seq (.seq (.reg [⟨some 78, .fa 1 (.t 8), none⟩,
      ⟨some 79, .ld none (.t 78), none⟩,
      ⟨some 80, .len (.t 79), none⟩,
      ⟨some 81, .cp (.c (.int .i64 0)), none⟩]) (
  .block 4 (
    .loop [false, false, false, false, false, false, false, false, false, false, false, false, false, true, false, false, false, false, false, false, false, false, false, false, false, false, false, false, false, false, false, false, false, false, false, false, false, false, false, false, false, false, false, false, false, false, false, false, false, false, false, false, false, false, false, false, false, false, false, false, false, false, false, false, false, false, false, false, false, false, false, false, false, false, false, false, false, false, false, false, false, false, true, true, true, true, true, true, true] [2] a13_l2))) (
  .seq (.seq (.reg [⟨some 89, .ld (some 2) (.t 8), none⟩,
      ⟨some 90, .call 66 [.t 89], none⟩,
      ⟨some 91, .len (.t 90), none⟩,
      ⟨some 92, .cp (.c (.int .i64 0)), none⟩]) (
  .block 6 (
    .loop [false, false, false, false, true, false, false, false, false, false, false, false, false, false, false, true, true, true, true, false, false, false, false, false, false, false, false, false, false, false, false, false, false, false, false, false, false, false, false, false, false, false, false, false, false, false, false, false, false, false, false, false, false, false, false, false, false, false, false, false, false, false, false, false, false, false, false, false, false, false, false, false, false, false, false, false, false, false, false, false, false, false, false, false, false, false, false, false, false, false, false, false, false, true, true, true, true, true, true, true, true, true, true, true, true, true, true, true] [3] a13_l3))) (
  .seq (.reg [⟨some 108, .fa 1 (.t 8), none⟩,
      ⟨some 109, .ld none (.t 108), none⟩,
      ⟨some 110, .len (.t 109), none⟩,
      ⟨some 111, .bin .eql (.t 110) (.c (.int .i64 0)), none⟩,
      ⟨some 112, .cp (.t 111), none⟩,
      ⟨some 113, .fa 0 (.t 8), some (112, true)⟩,
      ⟨some 114, .ld none (.t 113), some (112, true)⟩,
      ⟨some 115, .cp (.t 11), some (112, true)⟩,
      ⟨some 116, .bin .eql (.t 114) (.t 115), some (112, true)⟩,
      ⟨some 117, .pick (.t 112) (.t 116) (.c (.bool false)), none⟩,
      ⟨some 118, .cp (.t 117), none⟩,
      ⟨some 119, .ld (some 2) (.t 8), some (118, true)⟩,
      ⟨some 120, .call 68 [.t 119], some (118, true)⟩,
      ⟨some 121, .bin .eql (.t 120) (.c (.int .i64 8)), some (118, true)⟩,
      ⟨some 122, .pick (.t 118) (.t 121) (.c (.bool false)), none⟩,
      ⟨some 123, .cp (.t 122), none⟩,
      ⟨some 124, .call 58 [], some (123, true)⟩,
      ⟨some 125, .pick (.t 123) (.t 124) (.c (.bool false)), none⟩,
      ⟨some 4, .cp (.t 125), none⟩]) (
  .ret)))))))))))
def af13 : AFn := ⟨126, 4, [.t 4], a13⟩
theorem ak13 : chkF Try.prog 13 af13 = true := by kernel_rfl

-- f58 fingerpost/fingerpostlaw16.awake  boxes 5 notes []
def a58 : AC := .seq (.reg [⟨some 0, .cp (.c (.bool false)), none⟩]) (
  .seq (.reg [⟨some 19, .call 59 [], none⟩,
      ⟨some 20, .call 60 [.c (.int .i64 1)], none⟩,
      ⟨some 21, .call 61 [.t 19, .t 20], none⟩,
      ⟨some 18, .tk 21, none⟩,
      ⟨some 22, .ext (.t 18) 0, none⟩,
      ⟨some 23, .extt 18 1, none⟩,
      ⟨some 24, .ext (.t 18) 2, none⟩,
      ⟨some 1, .alloc 0 2 [.int .i64 0, .sl .own 8 []], none⟩,
      ⟨none, .st 2 (.t 1) (.t 22), none⟩,
      ⟨some 2, .tk 23, none⟩,
      ⟨some 3, .cp (.t 24), none⟩]) (
  .seq (.reg [⟨some 26, .ld (some 2) (.t 1), none⟩,
      ⟨some 27, .call 64 [.t 26], none⟩,
      ⟨some 25, .tk 27, none⟩,
      ⟨some 28, .ext (.t 25) 0, none⟩,
      ⟨some 29, .ext (.t 25) 1, none⟩,
      ⟨some 4, .cp (.t 28), none⟩,
      ⟨some 5, .cp (.t 29), none⟩]) (
  .seq (.drw [⟨some 31, .ld (some 2) (.t 1), none⟩,
      ⟨some 32, .call 60 [.c (.int .i64 1)], none⟩,
      ⟨some 33, .call 61 [.t 31, .t 32], none⟩,
      ⟨some 30, .tk 33, none⟩,
      ⟨some 34, .ext (.t 30) 0, none⟩,
      ⟨some 35, .ext (.t 30) 1, none⟩,
      ⟨some 36, .ext (.t 30) 2, none⟩,
      ⟨some 6, .alloc 1 2 [.int .i64 0, .sl .own 8 []], none⟩,
      ⟨none, .st 2 (.t 6) (.t 34), none⟩,
      ⟨some 7, .tk 35, none⟩,
      ⟨some 8, .cp (.t 36), none⟩] []) (
  .seq (.drw [⟨some 38, .ld (some 2) (.t 1), none⟩,
      ⟨some 39, .call 60 [.c (.int .i64 8)], none⟩,
      ⟨some 40, .call 61 [.t 38, .t 39], none⟩,
      ⟨some 37, .tk 40, none⟩,
      ⟨some 41, .ext (.t 37) 0, none⟩,
      ⟨some 42, .ext (.t 37) 1, none⟩,
      ⟨some 43, .ext (.t 37) 2, none⟩,
      ⟨some 9, .alloc 2 2 [.int .i64 0, .sl .own 8 []], none⟩,
      ⟨none, .st 2 (.t 9) (.t 41), none⟩,
      ⟨some 10, .tk 42, none⟩,
      ⟨some 11, .cp (.t 43), none⟩] []) (
  .seq (.drw [⟨some 45, .ld (some 2) (.t 1), none⟩,
      ⟨some 46, .call 60 [.c (.int .i64 0)], none⟩,
      ⟨some 47, .call 61 [.t 45, .t 46], none⟩,
      ⟨some 44, .tk 47, none⟩,
      ⟨some 48, .ext (.t 44) 0, none⟩,
      ⟨some 49, .ext (.t 44) 1, none⟩,
      ⟨some 50, .ext (.t 44) 2, none⟩,
      ⟨some 12, .alloc 3 2 [.int .i64 0, .sl .own 8 []], none⟩,
      ⟨none, .st 2 (.t 12) (.t 48), none⟩,
      ⟨some 13, .tk 49, none⟩,
      ⟨some 14, .cp (.t 50), none⟩] []) (
  .seq (.drw [⟨some 52, .ld (some 2) (.t 12), none⟩,
      ⟨some 53, .call 60 [.c (.int .i64 1)], none⟩,
      ⟨some 54, .call 61 [.t 52, .t 53], none⟩,
      ⟨some 51, .tk 54, none⟩,
      ⟨some 55, .ext (.t 51) 0, none⟩,
      ⟨some 56, .ext (.t 51) 1, none⟩,
      ⟨some 57, .ext (.t 51) 2, none⟩,
      ⟨some 15, .alloc 4 2 [.int .i64 0, .sl .own 8 []], none⟩,
      ⟨none, .st 2 (.t 15) (.t 55), none⟩,
      ⟨some 16, .tk 56, none⟩,
      ⟨some 17, .cp (.t 57), none⟩] []) (
  .seq (.seq (.reg [⟨some 58, .cp (.t 13), none⟩,
      ⟨some 59, .len (.t 58), none⟩,
      ⟨some 60, .bin .neq (.t 59) (.c (.int .i64 2)), none⟩]) (
  .cond (.t 60) (
    .seq (.reg [⟨some 0, .cp (.c (.bool false)), none⟩]) (
    .ret)) (
    .skip))) (
  .seq (.reg [⟨some 61, .tk 2, none⟩,
      ⟨some 62, .len (.t 61), none⟩,
      ⟨some 63, .bin .eql (.t 62) (.c (.int .i64 0)), none⟩,
      ⟨some 64, .cp (.t 63), none⟩,
      ⟨some 65, .cp (.t 3), some (64, true)⟩,
      ⟨some 66, .bin .eql (.t 65) (.c (.int .i64 0)), some (64, true)⟩,
      ⟨some 67, .pick (.t 64) (.t 66) (.c (.bool false)), none⟩,
      ⟨some 68, .cp (.t 67), none⟩,
      ⟨some 69, .cp (.t 5), some (68, true)⟩,
      ⟨some 70, .bin .eql (.t 69) (.c (.int .i64 2)), some (68, true)⟩,
      ⟨some 71, .pick (.t 68) (.t 70) (.c (.bool false)), none⟩,
      ⟨some 72, .cp (.t 71), none⟩,
      ⟨some 73, .cp (.t 8), some (72, true)⟩,
      ⟨some 74, .bin .eql (.t 73) (.c (.int .i64 6)), some (72, true)⟩,
      ⟨some 75, .pick (.t 72) (.t 74) (.c (.bool false)), none⟩,
      ⟨some 76, .cp (.t 75), none⟩,
      ⟨some 77, .cp (.t 11), some (76, true)⟩,
      ⟨some 78, .bin .eql (.t 77) (.c (.int .i64 8)), some (76, true)⟩,
      ⟨some 79, .pick (.t 76) (.t 78) (.c (.bool false)), none⟩,
      ⟨some 80, .cp (.t 79), none⟩,
      ⟨some 81, .cp (.t 13), some (80, true)⟩,
      ⟨some 82, .iaE 8 (.t 81) (.c (.int .i64 0)), some (80, true)⟩,
      ⟨some 83, .fa 5 (.t 82), some (80, true)⟩,
      ⟨some 84, .ld none (.t 83), some (80, true)⟩,
      ⟨some 85, .bin .eql (.t 84) (.c (.int .i64 0)), some (80, true)⟩,
      ⟨some 86, .pick (.t 80) (.t 85) (.c (.bool false)), none⟩,
      ⟨some 87, .cp (.t 86), none⟩,
      ⟨some 88, .tk 13, some (87, true)⟩,
      ⟨some 89, .iaE 8 (.t 88) (.c (.int .i64 1)), some (87, true)⟩,
      ⟨some 90, .fa 5 (.t 89), some (87, true)⟩,
      ⟨some 91, .ld none (.t 90), some (87, true)⟩,
      ⟨some 92, .bin .eql (.t 91) (.c (.int .i64 1)), some (87, true)⟩,
      ⟨some 93, .pick (.t 87) (.t 92) (.c (.bool false)), none⟩,
      ⟨some 94, .cp (.t 93), none⟩,
      ⟨some 95, .cp (.t 14), some (94, true)⟩,
      ⟨some 96, .bin .eql (.t 95) (.c (.int .i64 0)), some (94, true)⟩,
      ⟨some 97, .pick (.t 94) (.t 96) (.c (.bool false)), none⟩,
      ⟨some 98, .cp (.t 97), none⟩,
      ⟨some 99, .fa 0 (.t 12), some (98, true)⟩,
      ⟨some 100, .ld none (.t 99), some (98, true)⟩,
      ⟨some 101, .bin .eql (.t 100) (.c (.int .i64 2)), some (98, true)⟩,
      ⟨some 102, .pick (.t 98) (.t 101) (.c (.bool false)), none⟩,
      ⟨some 103, .cp (.t 102), none⟩,
      ⟨some 104, .fa 1 (.t 12), some (103, true)⟩,
      ⟨some 105, .ld none (.t 104), some (103, true)⟩,
      ⟨some 106, .len (.t 105), some (103, true)⟩,
      ⟨some 107, .bin .eql (.t 106) (.c (.int .i64 0)), some (103, true)⟩,
      ⟨some 108, .pick (.t 103) (.t 107) (.c (.bool false)), none⟩,
      ⟨some 109, .cp (.t 108), none⟩,
      ⟨some 110, .cp (.t 17), some (109, true)⟩,
      ⟨some 111, .bin .eql (.t 110) (.c (.int .i64 6)), some (109, true)⟩,
      ⟨some 112, .pick (.t 109) (.t 111) (.c (.bool false)), none⟩,
      ⟨some 113, .cp (.t 112), none⟩,
      ⟨some 114, .ld (some 2) (.t 1), some (113, true)⟩,
      ⟨some 115, .call 62 [.t 114], some (113, true)⟩,
      ⟨some 116, .pick (.t 113) (.t 115) (.c (.bool false)), none⟩,
      ⟨some 117, .cp (.t 116), none⟩,
      ⟨some 118, .ld (some 2) (.t 1), some (117, true)⟩,
      ⟨some 119, .ld (some 2) (.t 1), some (117, true)⟩,
      ⟨some 120, .call 63 [.t 118, .t 119], some (117, true)⟩,
      ⟨some 121, .pick (.t 117) (.t 120) (.c (.bool false)), none⟩,
      ⟨some 122, .cp (.t 121), none⟩,
      ⟨some 123, .ld (some 2) (.t 1), some (122, true)⟩,
      ⟨some 124, .ld (some 2) (.t 12), some (122, true)⟩,
      ⟨some 125, .call 63 [.t 123, .t 124], some (122, true)⟩,
      ⟨some 126, .un .not (.t 125), some (122, true)⟩,
      ⟨some 127, .pick (.t 122) (.t 126) (.c (.bool false)), none⟩,
      ⟨some 0, .cp (.t 127), none⟩]) (
  .ret)))))))))
def af58 : AFn := ⟨128, 5, [.t 0], a58⟩
theorem ak58 : chkF Try.prog 58 af58 = true := by kernel_rfl

-- f59 fingerpost/window.New  boxes 1 notes []
def a59 : AC := .seq (.reg [⟨some 0, .alloc 0 2 [.int .i64 0, .sl .own 8 []], none⟩]) (
  .seq (.reg [⟨some 1, .bld [.int .i64 0, .sl .own 8 []] [], none⟩,
      ⟨none, .st 2 (.t 0) (.t 1), none⟩]) (
  .ret))
def af59 : AFn := ⟨2, 1, [.c 0 (some 2)], a59⟩
theorem ak59 : chkF Try.prog 59 af59 = true := by kernel_rfl

-- f60 fingerpost/fingerpostlaw16.numbered  boxes 1 notes []
def a60 : AC := .seq (.reg [⟨some 2, .alloc 0 8 [.int .i64 0, .int .u32 0, .int .u32 0, .int .u32 0, .int .u32 0, .int .i64 0, .bool false, .sl .own 4 []], none⟩]) (
  .seq (.reg [⟨some 3, .cp (.t 0), none⟩,
      ⟨some 4, .bld [.int .i64 0, .int .u32 0, .int .u32 0, .int .u32 0, .int .u32 0, .int .i64 0, .bool false, .sl .own 4 []] [(0, 1, .c (.int .i64 1)), (5, 1, .t 3)], none⟩,
      ⟨none, .st 8 (.t 2) (.t 4), none⟩]) (
  .ret))
def af60 : AFn := ⟨5, 1, [.c 2 (some 8)], a60⟩
theorem ak60 : chkF Try.prog 60 af60 = true := by kernel_rfl

-- f61 fingerpost/window.Take  boxes 6 notes []
def a61_l1 : AC := .seq (.reg [⟨some 69, .bin .lss (.t 68) (.t 67), none⟩]) (
  .seq (.cond (.t 69) (
    .skip) (
    .exit 3)) (
  .seq (.block 4 (
    .seq (.reg [⟨some 70, .iaE 8 (.t 66) (.t 68), none⟩,
        ⟨some 71, .ld (some 8) (.t 70), none⟩,
        ⟨some 13, .alloc 5 8 [.int .i64 0, .int .u32 0, .int .u32 0, .int .u32 0, .int .u32 0, .int .i64 0, .bool false, .sl .own 4 []], none⟩,
        ⟨none, .st 8 (.t 13) (.t 71), none⟩]) (
    .drw [⟨some 72, .fa 1 (.t 8), none⟩,
        ⟨some 73, .ldt (.t 72), none⟩,
        ⟨some 74, .ld (some 8) (.t 13), none⟩,
        ⟨some 75, .call 123 [.t 74], none⟩,
        ⟨some 76, .bs 8 [.t 75], none⟩,
        ⟨some 77, .app 8 64 (.t 73) (.t 76), none⟩,
        ⟨some 78, .fa 1 (.t 8), none⟩,
        ⟨none, .stt (.t 78) 77, none⟩] [(72, 13), (8, 13), (78, 13)]))) (
  .reg [⟨some 79, .bin .add (.t 68) (.c (.int .i64 1)), none⟩,
      ⟨some 68, .cp (.t 79), none⟩])))
def a61_l0 : AC := .seq (.reg [⟨some 55, .bin .lss (.t 54) (.t 53), none⟩]) (
  .seq (.cond (.t 55) (
    .skip) (
    .exit 1)) (
  .seq (.block 2 (
    .seq (.reg [⟨some 56, .cp (.t 54), none⟩,
        ⟨some 57, .iaE 8 (.t 52) (.t 54), none⟩,
        ⟨some 58, .ld (some 8) (.t 57), none⟩,
        ⟨some 11, .alloc 4 8 [.int .i64 0, .int .u32 0, .int .u32 0, .int .u32 0, .int .u32 0, .int .i64 0, .bool false, .sl .own 4 []], none⟩,
        ⟨some 10, .cp (.t 56), none⟩,
        ⟨none, .st 8 (.t 11) (.t 58), none⟩]) (
    .seq (.seq (.reg [⟨some 59, .fa 5 (.t 11), none⟩,
        ⟨some 60, .ld none (.t 59), none⟩,
        ⟨some 61, .fa 0 (.t 8), none⟩,
        ⟨some 62, .ld none (.t 61), none⟩,
        ⟨some 63, .bin .neq (.t 60) (.t 62), none⟩]) (
    .cond (.t 63) (
      .seq (.seq (.reg [⟨some 64, .tk 7, none⟩,
          ⟨some 65, .cp (.t 10), none⟩,
          ⟨some 66, .sub 8 (.t 64) (some (.t 65)) none none, none⟩,
          ⟨some 67, .len (.t 66), none⟩,
          ⟨some 68, .cp (.c (.int .i64 0)), none⟩]) (
      .block 3 (
        .loop [false, false, false, false, false, false, false, false, false, false, false, false, false, true, false, false, false, false, false, false, false, false, false, false, false, false, false, false, false, false, false, false, false, false, false, false, false, false, false, false, false, false, false, false, false, false, false, false, false, false, false, false, false, false, false, false, false, false, false, false, false, false, false, false, false, false, false, false, false, true, true, true, true, true, true, true, true, true, true, true] [5] a61_l1))) (
      .exit 1)) (
      .skip))) (
    .seq (.reg [⟨some 80, .tk 9, none⟩,
        ⟨some 81, .ld (some 8) (.t 11), none⟩,
        ⟨some 82, .call 123 [.t 81], none⟩,
        ⟨some 83, .bs 8 [.t 82], none⟩,
        ⟨some 84, .app 8 64 (.t 80) (.t 83), none⟩,
        ⟨some 9, .tk 84, none⟩]) (
    .reg [⟨some 85, .fa 0 (.t 8), none⟩,
        ⟨some 86, .ld none (.t 85), none⟩,
        ⟨some 87, .bin .add (.t 86) (.c (.int .i64 1)), none⟩,
        ⟨some 88, .fa 0 (.t 8), none⟩,
        ⟨none, .st 1 (.t 88) (.t 87), none⟩]))))) (
  .reg [⟨some 89, .bin .add (.t 54) (.c (.int .i64 1)), none⟩,
      ⟨some 54, .cp (.t 89), none⟩])))
def a61 : AC := .seq (.reg [⟨some 2, .box 0 2 (.t 0), none⟩,
      ⟨some 3, .box 1 8 (.t 1), none⟩,
      ⟨some 4, .alloc 2 2 [.int .i64 0, .sl .own 8 []], none⟩,
      ⟨some 5, .cp (.c (.sl .own 8 [])), none⟩,
      ⟨some 6, .cp (.c (.int .i64 0)), none⟩]) (
  .scope (.seq (.block 0 (
    .seq (.seq (.reg [⟨some 15, .ld (some 8) (.t 3), none⟩,
        ⟨some 16, .call 32 [.t 15], none⟩,
        ⟨some 17, .un .not (.t 16), none⟩,
        ⟨some 14, .cp (.t 17), none⟩]) (
    .cond (.t 14) (
      .skip) (
      .reg [⟨some 18, .fa 0 (.t 2), none⟩,
          ⟨some 19, .ld none (.t 18), none⟩,
          ⟨some 20, .call 118 [.t 19], none⟩,
          ⟨some 21, .un .not (.t 20), none⟩,
          ⟨some 14, .cp (.t 21), none⟩]))) (
    .cond (.t 14) (
      .seq (.reg [⟨some 22, .ld (some 2) (.t 2), none⟩,
          ⟨none, .st 2 (.t 4) (.t 22), none⟩,
          ⟨some 5, .cp (.c (.sl .own 8 [])), none⟩,
          ⟨some 6, .cp (.c (.int .i64 1)), none⟩]) (
      .ret)) (
      .seq (.reg [⟨some 24, .fa 5 (.t 3), none⟩,
          ⟨some 25, .ld none (.t 24), none⟩,
          ⟨some 26, .fa 0 (.t 2), none⟩,
          ⟨some 27, .ld none (.t 26), none⟩,
          ⟨some 28, .bin .lss (.t 25) (.t 27), none⟩,
          ⟨some 23, .cp (.t 28), none⟩]) (
      .cond (.t 23) (
        .seq (.reg [⟨some 29, .ld (some 2) (.t 2), none⟩,
            ⟨none, .st 2 (.t 4) (.t 29), none⟩,
            ⟨some 5, .cp (.c (.sl .own 8 [])), none⟩,
            ⟨some 6, .cp (.c (.int .i64 6)), none⟩]) (
        .ret)) (
        .seq (.reg [⟨some 31, .fa 5 (.t 3), none⟩,
            ⟨some 32, .ld none (.t 31), none⟩,
            ⟨some 33, .fa 0 (.t 2), none⟩,
            ⟨some 34, .ld none (.t 33), none⟩,
            ⟨some 35, .call 119 [.t 32, .t 34], none⟩,
            ⟨some 36, .un .not (.t 35), none⟩,
            ⟨some 30, .cp (.t 36), none⟩]) (
        .cond (.t 30) (
          .seq (.reg [⟨some 37, .ld (some 2) (.t 2), none⟩,
              ⟨none, .st 2 (.t 4) (.t 37), none⟩,
              ⟨some 5, .cp (.c (.sl .own 8 [])), none⟩,
              ⟨some 6, .cp (.c (.int .i64 8)), none⟩]) (
          .ret)) (
          .seq (.drw [⟨some 39, .ld (some 2) (.t 2), none⟩,
              ⟨some 40, .call 121 [.t 39], none⟩,
              ⟨some 41, .fa 5 (.t 3), none⟩,
              ⟨some 42, .ld none (.t 41), none⟩,
              ⟨some 43, .call 120 [.t 40, .t 42], none⟩,
              ⟨some 38, .cp (.t 43), none⟩] []) (
          .cond (.t 38) (
            .seq (.reg [⟨some 44, .ld (some 2) (.t 2), none⟩,
                ⟨none, .st 2 (.t 4) (.t 44), none⟩,
                ⟨some 5, .cp (.c (.sl .own 8 [])), none⟩,
                ⟨some 6, .cp (.c (.int .i64 6)), none⟩]) (
            .ret)) (
            .skip)))))))))) (
  .seq (.reg [⟨some 45, .fa 1 (.t 2), none⟩,
      ⟨some 46, .ld none (.t 45), none⟩,
      ⟨some 47, .ld (some 8) (.t 3), none⟩,
      ⟨some 48, .call 122 [.t 46, .t 47], none⟩,
      ⟨some 7, .tk 48, none⟩]) (
  .seq (.reg [⟨some 49, .fa 0 (.t 2), none⟩,
      ⟨some 50, .ld none (.t 49), none⟩,
      ⟨some 51, .bld [.int .i64 0, .sl .nil 8 []] [(0, 1, .t 50)], none⟩,
      ⟨some 8, .alloc 3 2 [.int .i64 0, .sl .own 8 []], none⟩,
      ⟨none, .st 2 (.t 8) (.t 51), none⟩]) (
  .seq (.reg [⟨some 9, .cp (.c (.sl .own 8 [])), none⟩]) (
  .seq (.skip) (
  .seq (.seq (.reg [⟨some 52, .cp (.t 7), none⟩,
      ⟨some 53, .len (.t 52), none⟩,
      ⟨some 54, .cp (.c (.int .i64 0)), none⟩]) (
  .block 1 (
    .loop [false, false, false, false, false, false, false, false, false, false, true, true, false, true, false, false, false, false, false, false, false, false, false, false, false, false, false, false, false, false, false, false, false, false, false, false, false, false, false, false, false, false, false, false, false, false, false, false, false, false, false, false, false, false, false, true, true, true, true, true, true, true, true, true, true, true, true, true, true, true, true, true, true, true, true, true, true, true, true, true, true, true, true, true, true, true, true, true, true, true] [4, 5] a61_l0))) (
  .seq (.reg [⟨some 90, .ld (some 2) (.t 8), none⟩,
      ⟨some 91, .tk 9, none⟩,
      ⟨none, .st 2 (.t 4) (.t 90), none⟩,
      ⟨some 5, .tk 91, none⟩,
      ⟨some 6, .cp (.c (.int .i64 0)), none⟩]) (
  .ret)))))))))
def af61 : AFn := ⟨92, 6, [.c 4 (some 2), .t 5, .t 6], a61⟩
theorem ak61 : chkF Try.prog 61 af61 = true := by kernel_rfl

-- f62 fingerpost/window.Sound  boxes 2 notes []
def a62_l0 : AC := .seq (.reg [⟨some 15, .bin .lss (.t 14) (.t 13), none⟩]) (
  .seq (.cond (.t 15) (
    .skip) (
    .exit 0)) (
  .seq (.block 1 (
    .seq (.reg [⟨some 16, .iaE 8 (.t 12) (.t 14), none⟩,
        ⟨some 17, .ld (some 8) (.t 16), none⟩,
        ⟨some 5, .alloc 1 8 [.int .i64 0, .int .u32 0, .int .u32 0, .int .u32 0, .int .u32 0, .int .i64 0, .bool false, .sl .own 4 []], none⟩,
        ⟨none, .st 8 (.t 5) (.t 17), none⟩]) (
    .seq (.seq (.reg [⟨some 18, .fa 5 (.t 5), none⟩,
        ⟨some 19, .ld none (.t 18), none⟩,
        ⟨some 20, .cp (.t 3), none⟩,
        ⟨some 21, .bin .leq (.t 19) (.t 20), none⟩,
        ⟨some 22, .cp (.t 21), none⟩,
        ⟨some 23, .fa 5 (.t 5), some (22, false)⟩,
        ⟨some 24, .ld none (.t 23), some (22, false)⟩,
        ⟨some 25, .fa 0 (.t 1), some (22, false)⟩,
        ⟨some 26, .ld none (.t 25), some (22, false)⟩,
        ⟨some 27, .call 124 [.t 24, .t 26], some (22, false)⟩,
        ⟨some 28, .bin .geq (.t 27) (.c (.int .i64 8)), some (22, false)⟩,
        ⟨some 29, .pick (.t 22) (.c (.bool true)) (.t 28), none⟩]) (
    .cond (.t 29) (
      .seq (.reg [⟨some 2, .cp (.c (.bool false)), none⟩]) (
      .ret)) (
      .skip))) (
    .reg [⟨some 30, .fa 5 (.t 5), none⟩,
        ⟨some 31, .ld none (.t 30), none⟩,
        ⟨some 3, .cp (.t 31), none⟩])))) (
  .reg [⟨some 32, .bin .add (.t 14) (.c (.int .i64 1)), none⟩,
      ⟨some 14, .cp (.t 32), none⟩])))
def a62 : AC := .seq (.reg [⟨some 1, .box 0 2 (.t 0), none⟩,
      ⟨some 2, .cp (.c (.bool false)), none⟩]) (
  .seq (.seq (.reg [⟨some 6, .fa 0 (.t 1), none⟩,
      ⟨some 7, .ld none (.t 6), none⟩,
      ⟨some 8, .bin .lss (.t 7) (.c (.int .i64 0)), none⟩]) (
  .cond (.t 8) (
    .seq (.reg [⟨some 2, .cp (.c (.bool false)), none⟩]) (
    .ret)) (
    .skip))) (
  .seq (.reg [⟨some 9, .fa 0 (.t 1), none⟩,
      ⟨some 10, .ld none (.t 9), none⟩,
      ⟨some 3, .cp (.t 10), none⟩]) (
  .seq (.seq (.reg [⟨some 11, .fa 1 (.t 1), none⟩,
      ⟨some 12, .ld none (.t 11), none⟩,
      ⟨some 13, .len (.t 12), none⟩,
      ⟨some 14, .cp (.c (.int .i64 0)), none⟩]) (
  .block 0 (
    .loop [false, false, true, false, false, true, false, false, false, false, false, false, false, false, false, true, true, true, true, true, true, true, true, true, true, true, true, true, true, true, true, true, true] [1] a62_l0))) (
  .seq (.reg [⟨some 2, .cp (.c (.bool true)), none⟩]) (
  .ret)))))
def af62 : AFn := ⟨33, 2, [.t 2], a62⟩
theorem ak62 : chkF Try.prog 62 af62 = true := by kernel_rfl

-- f63 fingerpost/window.Same  boxes 2 notes []
def a63 : AC := .seq (.reg [⟨some 2, .box 0 2 (.t 0), none⟩,
      ⟨some 3, .box 1 2 (.t 1), none⟩,
      ⟨some 4, .cp (.c (.bool false)), none⟩]) (
  .seq (.reg [⟨some 5, .fa 0 (.t 2), none⟩,
      ⟨some 6, .ld none (.t 5), none⟩,
      ⟨some 7, .fa 0 (.t 3), none⟩,
      ⟨some 8, .ld none (.t 7), none⟩,
      ⟨some 9, .bin .eql (.t 6) (.t 8), none⟩,
      ⟨some 10, .cp (.t 9), none⟩,
      ⟨some 11, .fa 1 (.t 2), some (10, true)⟩,
      ⟨some 12, .ld none (.t 11), some (10, true)⟩,
      ⟨some 13, .fa 1 (.t 3), some (10, true)⟩,
      ⟨some 14, .ld none (.t 13), some (10, true)⟩,
      ⟨some 15, .call 125 [.t 12, .t 14, .c (.fn 35)], some (10, true)⟩,
      ⟨some 16, .pick (.t 10) (.t 15) (.c (.bool false)), none⟩,
      ⟨some 4, .cp (.t 16), none⟩]) (
  .ret))
def af63 : AFn := ⟨17, 2, [.t 4], a63⟩
theorem ak63 : chkF Try.prog 63 af63 = true := by kernel_rfl

-- f64 fingerpost/window.Bits  boxes 1 notes []
def a64 : AC := .seq (.reg [⟨some 1, .box 0 2 (.t 0), none⟩,
      ⟨some 2, .cp (.c (.int .i64 0)), none⟩,
      ⟨some 3, .cp (.c (.int .i64 0)), none⟩]) (
  .seq (.drw [⟨some 4, .fa 0 (.t 1), none⟩,
      ⟨some 5, .ld none (.t 4), none⟩,
      ⟨some 6, .ld (some 2) (.t 1), none⟩,
      ⟨some 7, .call 121 [.t 6], none⟩,
      ⟨some 8, .call 39 [.t 5, .t 7], none⟩,
      ⟨some 9, .ext (.t 8) 0, none⟩,
      ⟨some 10, .ext (.t 8) 1, none⟩,
      ⟨some 2, .cp (.t 9), none⟩,
      ⟨some 3, .cp (.t 10), none⟩] []) (
  .ret))
def af64 : AFn := ⟨11, 1, [.t 2, .t 3], a64⟩
theorem ak64 : chkF Try.prog 64 af64 = true := by kernel_rfl

-- f65 fingerpost/fingerpostlaw16.Long  boxes 1 notes []
def a65_l0 : AC := .seq (.reg [⟨some 8, .bin .lss (.t 7) (.t 6), none⟩]) (
  .seq (.cond (.t 8) (
    .skip) (
    .exit 0)) (
  .seq (.block 1 (
    .seq (.reg [⟨some 9, .iaE 8 (.t 5) (.t 7), none⟩,
        ⟨some 10, .ld (some 8) (.t 9), none⟩,
        ⟨some 4, .alloc 0 8 [.int .i64 0, .int .u32 0, .int .u32 0, .int .u32 0, .int .u32 0, .int .i64 0, .bool false, .sl .own 4 []], none⟩,
        ⟨none, .st 8 (.t 4) (.t 10), none⟩]) (
    .seq (.reg [⟨some 11, .ld (some 8) (.t 4), none⟩,
        ⟨some 12, .call 26 [.t 11], none⟩]) (
    .cond (.t 12) (
      .seq (.reg [⟨some 2, .cp (.c (.bool true)), none⟩]) (
      .ret)) (
      .skip))))) (
  .reg [⟨some 13, .bin .add (.t 7) (.c (.int .i64 1)), none⟩,
      ⟨some 7, .cp (.t 13), none⟩])))
def a65 : AC := .seq (.reg [⟨some 2, .cp (.c (.bool false)), none⟩]) (
  .seq (.seq (.reg [⟨some 5, .cp (.t 0), none⟩,
      ⟨some 6, .len (.t 5), none⟩,
      ⟨some 7, .cp (.c (.int .i64 0)), none⟩]) (
  .block 0 (
    .loop [false, false, true, false, true, false, false, false, true, true, true, true, true, true] [0] a65_l0))) (
  .seq (.reg [⟨some 14, .tk 0, none⟩,
      ⟨some 15, .len (.t 14), none⟩,
      ⟨some 16, .bin .gtr (.t 15) (.c (.int .i64 60)), none⟩,
      ⟨some 2, .cp (.t 16), none⟩]) (
  .ret)))
def af65 : AFn := ⟨17, 1, [.t 2], a65⟩
theorem ak65 : chkF Try.prog 65 af65 = true := by kernel_rfl

-- f66 fingerpost/window.Gaps  boxes 1 notes []
def a66 : AC := .seq (.reg [⟨some 1, .box 0 2 (.t 0), none⟩,
      ⟨some 2, .cp (.c (.sl .own 1 [])), none⟩]) (
  .seq (.drw [⟨some 3, .fa 0 (.t 1), none⟩,
      ⟨some 4, .ld none (.t 3), none⟩,
      ⟨some 5, .ld (some 2) (.t 1), none⟩,
      ⟨some 6, .call 121 [.t 5], none⟩,
      ⟨some 7, .call 75 [.t 4, .t 6], none⟩,
      ⟨some 2, .tk 7, none⟩] []) (
  .ret))
def af66 : AFn := ⟨8, 1, [.t 2], a66⟩
theorem ak66 : chkF Try.prog 66 af66 = true := by kernel_rfl

-- f67 fingerpost/fingerpostref16.Gaps  boxes 2 notes []
def a67_l0 : AC := .seq (.reg [⟨some 10, .bin .lss (.t 9) (.t 8), none⟩]) (
  .seq (.cond (.t 10) (
    .skip) (
    .exit 0)) (
  .seq (.block 1 (
    .seq (.reg [⟨some 11, .iaE 8 (.t 7) (.t 9), none⟩,
        ⟨some 12, .ld (some 8) (.t 11), none⟩,
        ⟨some 5, .alloc 1 8 [.int .i64 0, .int .u32 0, .int .u32 0, .int .u32 0, .int .u32 0, .int .i64 0, .bool false, .sl .own 4 []], none⟩,
        ⟨none, .st 8 (.t 5) (.t 12), none⟩]) (
    .reg [⟨some 13, .tk 3, none⟩,
        ⟨some 14, .fa 5 (.t 5), none⟩,
        ⟨some 15, .ld none (.t 14), none⟩,
        ⟨some 16, .bs 1 [.t 15], none⟩,
        ⟨some 17, .app 1 8 (.t 13) (.t 16), none⟩,
        ⟨some 3, .tk 17, none⟩]))) (
  .reg [⟨some 18, .bin .add (.t 9) (.c (.int .i64 1)), none⟩,
      ⟨some 9, .cp (.t 18), none⟩])))
def a67 : AC := .seq (.reg [⟨some 1, .box 0 2 (.t 0), none⟩,
      ⟨some 2, .cp (.c (.sl .own 1 [])), none⟩]) (
  .seq (.reg [⟨some 3, .cp (.c (.sl .own 1 [])), none⟩]) (
  .seq (.seq (.reg [⟨some 6, .fa 1 (.t 1), none⟩,
      ⟨some 7, .ld none (.t 6), none⟩,
      ⟨some 8, .len (.t 7), none⟩,
      ⟨some 9, .cp (.c (.int .i64 0)), none⟩]) (
  .block 0 (
    .loop [false, false, false, false, false, true, false, false, false, false, true, true, true, true, true, true, true, true, true] [1] a67_l0))) (
  .seq (.reg [⟨some 19, .fa 0 (.t 1), none⟩,
      ⟨some 20, .ld none (.t 19), none⟩,
      ⟨some 21, .tk 3, none⟩,
      ⟨some 22, .call 76 [.t 20, .t 21], none⟩,
      ⟨some 2, .tk 22, none⟩]) (
  .ret))))
def af67 : AFn := ⟨23, 2, [.t 2], a67⟩
theorem ak67 : chkF Try.prog 67 af67 = true := by kernel_rfl

-- f68 fingerpost/window.Room  boxes 1 notes []
def a68 : AC := .seq (.reg [⟨some 1, .box 0 2 (.t 0), none⟩,
      ⟨some 2, .cp (.c (.int .i64 0)), none⟩]) (
  .seq (.reg [⟨some 3, .fa 1 (.t 1), none⟩,
      ⟨some 4, .ld none (.t 3), none⟩,
      ⟨some 5, .len (.t 4), none⟩,
      ⟨some 6, .bin .sub (.c (.int .i64 8)) (.t 5), none⟩,
      ⟨some 7, .mm true [.t 6, .c (.int .i64 0)], none⟩,
      ⟨some 2, .cp (.t 7), none⟩]) (
  .ret))
def af68 : AFn := ⟨8, 1, [.t 2], a68⟩
theorem ak68 : chkF Try.prog 68 af68 = true := by kernel_rfl

-- f69 fingerpost/fingerpostref16.Room  boxes 1 notes []
def a69 : AC := .seq (.reg [⟨some 1, .box 0 2 (.t 0), none⟩,
      ⟨some 2, .cp (.c (.int .i64 0)), none⟩]) (
  .seq (.reg [⟨some 3, .fa 1 (.t 1), none⟩,
      ⟨some 4, .ld none (.t 3), none⟩,
      ⟨some 5, .len (.t 4), none⟩,
      ⟨some 6, .bin .sub (.c (.int .i64 8)) (.t 5), none⟩,
      ⟨some 7, .mm true [.c (.int .i64 0), .t 6], none⟩,
      ⟨some 2, .cp (.t 7), none⟩]) (
  .ret))
def af69 : AFn := ⟨8, 1, [.t 2], a69⟩
theorem ak69 : chkF Try.prog 69 af69 = true := by kernel_rfl

-- f75 fingerpost/serial.Missing  boxes 1 notes []
def a75_l0 : AC := .seq (.reg [⟨some 18, .bin .lss (.t 17) (.t 16), none⟩]) (
  .seq (.cond (.t 18) (
    .skip) (
    .exit 0)) (
  .seq (.block 1 (
    .seq (.reg [⟨some 19, .iaE 1 (.t 15) (.t 17), none⟩,
        ⟨some 20, .ld none (.t 19), none⟩,
        ⟨some 8, .cp (.t 20), none⟩]) (
    .seq (.seq (.reg [⟨some 21, .cp (.t 8), none⟩,
        ⟨some 22, .call 118 [.t 21], none⟩,
        ⟨some 23, .un .not (.t 22), none⟩]) (
    .cond (.t 23) (
      .exit 1) (
      .skip))) (
    .seq (.reg [⟨some 24, .cp (.t 5), none⟩,
        ⟨some 25, .cp (.t 8), none⟩,
        ⟨some 26, .mm true [.t 24, .t 25], none⟩,
        ⟨some 5, .cp (.t 26), none⟩]) (
    .seq (.reg [⟨some 27, .cp (.t 8), none⟩,
        ⟨some 28, .cp (.t 0), none⟩,
        ⟨some 29, .bin .sub (.t 27) (.t 28), none⟩,
        ⟨some 9, .cp (.t 29), none⟩]) (
    .seq (.reg [⟨some 30, .cp (.t 9), none⟩,
        ⟨some 31, .bin .geq (.t 30) (.c (.int .i64 0)), none⟩,
        ⟨some 32, .cp (.t 31), none⟩,
        ⟨some 33, .cp (.t 9), some (32, true)⟩,
        ⟨some 34, .bin .leq (.t 33) (.c (.int .i64 7)), some (32, true)⟩,
        ⟨some 35, .pick (.t 32) (.t 34) (.c (.bool false)), none⟩]) (
    .cond (.t 35) (
      .reg [⟨some 36, .cp (.t 9), none⟩,
          ⟨some 37, .iaR 1 8 (.t 6) (.t 36), none⟩,
          ⟨none, .sto 1 (.t 37) (.c (.bool true)), none⟩]) (
      .skip)))))))) (
  .reg [⟨some 38, .bin .add (.t 17) (.c (.int .i64 1)), none⟩,
      ⟨some 17, .cp (.t 38), none⟩])))
def a75_j0 : AC := .seq .skip (.seq (.seq (.reg [⟨some 39, .cp (.t 11), none⟩,
      ⟨some 40, .bin .gtr (.t 39) (.c (.int .i64 7)), none⟩,
      ⟨some 41, .cp (.t 40), none⟩,
      ⟨some 42, .cp (.t 0), some (41, false)⟩,
      ⟨some 43, .cp (.t 11), some (41, false)⟩,
      ⟨some 44, .bin .add (.t 42) (.t 43), some (41, false)⟩,
      ⟨some 45, .cp (.t 5), some (41, false)⟩,
      ⟨some 46, .bin .geq (.t 44) (.t 45), some (41, false)⟩,
      ⟨some 47, .pick (.t 41) (.c (.bool true)) (.t 46), none⟩]) (
  .cond (.t 47) (
    .seq (.reg [⟨some 48, .tk 10, none⟩,
        ⟨some 4, .tk 48, none⟩]) (
    .ret)) (
    .skip))) (
  .seq (.seq (.reg [⟨some 49, .cp (.t 11), none⟩,
      ⟨some 50, .iaR 1 8 (.t 6) (.t 49), none⟩,
      ⟨some 51, .ldr none (.t 50), none⟩,
      ⟨some 52, .un .not (.t 51), none⟩]) (
  .cond (.t 52) (
    .reg [⟨some 53, .tk 10, none⟩,
        ⟨some 54, .cp (.t 0), none⟩,
        ⟨some 55, .cp (.t 11), none⟩,
        ⟨some 56, .bin .add (.t 54) (.t 55), none⟩,
        ⟨some 57, .bs 1 [.t 56], none⟩,
        ⟨some 58, .app 1 8 (.t 53) (.t 57), none⟩,
        ⟨some 10, .tk 58, none⟩]) (
    .skip))) (
  .seq (.reg [⟨some 59, .cp (.t 11), none⟩,
      ⟨some 60, .bin .add (.t 59) (.c (.int .i64 1)), none⟩,
      ⟨some 11, .cp (.t 60), none⟩]) (
  .goto 0))))
def a75 : AC := .seq (.reg [⟨some 4, .cp (.c (.sl .own 1 [])), none⟩]) (
  .gsc (.seq (.seq (.reg [⟨some 12, .cp (.t 0), none⟩,
      ⟨some 13, .call 118 [.t 12], none⟩,
      ⟨some 14, .un .not (.t 13), none⟩]) (
  .cond (.t 14) (
    .seq (.reg [⟨some 4, .cp (.c (.sl .own 1 [])), none⟩]) (
    .ret)) (
    .skip))) (
  .seq (.reg [⟨some 5, .cp (.c (.int .i64 (-1))), none⟩]) (
  .seq (.reg [⟨some 6, .allocR 0 8 1 [.bool false], none⟩]) (
  .seq (.seq (.reg [⟨some 15, .tk 1, none⟩,
      ⟨some 16, .len (.t 15), none⟩,
      ⟨some 17, .cp (.c (.int .i64 0)), none⟩]) (
  .block 0 (
    .loop [false, false, false, false, false, false, false, false, true, true, false, false, false, false, false, false, false, false, true, true, true, true, true, true, true, true, true, true, true, true, true, true, true, true, true, true, true, true, true] [] a75_l0))) (
  .seq (.reg [⟨some 10, .cp (.c (.sl .own 1 [])), none⟩]) (
  .seq (.reg [⟨some 11, .cp (.c (.int .i64 0)), none⟩]) (
  .lab [false, false, false, false, true, false, false, false, true, true, false, false, true, true, true, true, true, true, true, true, true, true, true, true, true, true, true, true, true, true, true, true, true, true, true, true, true, true, true, true, true, true, true, true, true, true, true, true, true, true, true, true, true, true, true, true, true, true, true, true, true] [] a75_j0))))))) 0 [false, false, false, false, true, false, false, false, true, true, false, false, true, true, true, true, true, true, true, true, true, true, true, true, true, true, true, true, true, true, true, true, true, true, true, true, true, true, true, true, true, true, true, true, true, true, true, true, true, true, true, true, true, true, true, true, true, true, true, true, true] [] a75_j0 0 [false, false, false, false, true, false, false, false, true, true, false, false, true, true, true, true, true, true, true, true, true, true, true, true, true, true, true, true, true, true, true, true, true, true, true, true, true, true, true, true, true, true, true, true, true, true, true, true, true, true, true, true, true, true, true, true, true, true, true, true, true] [] a75_j0)
def af75 : AFn := ⟨61, 1, [.t 4], a75⟩
theorem ak75 : chkF Try.prog 75 af75 = true := by kernel_rfl

-- f76 fingerpost/fingerpostref15.Missing  boxes 0 notes []
def a76_l1 : AC := .seq (.reg [⟨some 25, .bin .lss (.t 24) (.t 23), none⟩]) (
  .seq (.cond (.t 25) (
    .skip) (
    .exit 2)) (
  .seq (.block 3 (
    .seq (.reg [⟨some 26, .iaE 1 (.t 22) (.t 24), none⟩,
        ⟨some 27, .ld none (.t 26), none⟩,
        ⟨some 9, .cp (.t 27), none⟩]) (
    .reg [⟨some 28, .cp (.t 7), none⟩,
        ⟨some 29, .cp (.t 28), none⟩,
        ⟨some 30, .cp (.t 9), some (29, false)⟩,
        ⟨some 31, .cp (.t 0), some (29, false)⟩,
        ⟨some 32, .cp (.t 6), some (29, false)⟩,
        ⟨some 33, .bin .add (.t 31) (.t 32), some (29, false)⟩,
        ⟨some 34, .bin .eql (.t 30) (.t 33), some (29, false)⟩,
        ⟨some 35, .pick (.t 29) (.c (.bool true)) (.t 34), none⟩,
        ⟨some 7, .cp (.t 35), none⟩]))) (
  .reg [⟨some 36, .bin .add (.t 24) (.c (.int .i64 1)), none⟩,
      ⟨some 24, .cp (.t 36), none⟩])))
def a76_l0 : AC := .seq (.reg [⟨some 11, .bin .lss (.t 10) (.c (.int .i64 8)), none⟩]) (
  .seq (.cond (.t 11) (
    .skip) (
    .exit 0)) (
  .seq (.block 1 (
    .seq (.reg [⟨some 12, .cp (.t 10), none⟩,
        ⟨some 6, .cp (.t 12), none⟩]) (
    .seq (.seq (.reg [⟨some 13, .cp (.t 0), none⟩,
        ⟨some 14, .call 129 [.t 13], none⟩,
        ⟨some 15, .un .not (.t 14), none⟩,
        ⟨some 16, .cp (.t 15), none⟩,
        ⟨some 17, .cp (.t 0), some (16, false)⟩,
        ⟨some 18, .cp (.t 6), some (16, false)⟩,
        ⟨some 19, .bin .sub (.c (.int .i64 65535)) (.t 18), some (16, false)⟩,
        ⟨some 20, .bin .gtr (.t 17) (.t 19), some (16, false)⟩,
        ⟨some 21, .pick (.t 16) (.c (.bool true)) (.t 20), none⟩]) (
    .cond (.t 21) (
      .exit 0) (
      .skip))) (
    .seq (.reg [⟨some 7, .cp (.c (.bool false)), none⟩]) (
    .seq (.seq (.reg [⟨some 22, .cp (.t 1), none⟩,
        ⟨some 23, .len (.t 22), none⟩,
        ⟨some 24, .cp (.c (.int .i64 0)), none⟩]) (
    .block 2 (
      .loop [false, false, false, false, false, false, false, false, false, true, false, false, false, false, false, false, false, false, false, false, false, false, false, false, false, true, true, true, true, true, true, true, true, true, true, true, true] [] a76_l1))) (
    .seq (.reg [⟨some 37, .cp (.t 7), none⟩,
        ⟨some 38, .un .not (.t 37), none⟩,
        ⟨some 39, .cp (.t 38), none⟩,
        ⟨some 40, .cp (.t 1), some (39, true)⟩,
        ⟨some 41, .cp (.t 0), some (39, true)⟩,
        ⟨some 42, .cp (.t 6), some (39, true)⟩,
        ⟨some 43, .bin .add (.t 41) (.t 42), some (39, true)⟩,
        ⟨some 44, .call 128 [.t 40, .t 43], some (39, true)⟩,
        ⟨some 45, .un .not (.t 44), some (39, true)⟩,
        ⟨some 46, .pick (.t 39) (.t 45) (.c (.bool false)), none⟩]) (
    .cond (.t 46) (
      .reg [⟨some 47, .tk 5, none⟩,
          ⟨some 48, .cp (.t 0), none⟩,
          ⟨some 49, .cp (.t 6), none⟩,
          ⟨some 50, .bin .add (.t 48) (.t 49), none⟩,
          ⟨some 51, .bs 1 [.t 50], none⟩,
          ⟨some 52, .app 1 8 (.t 47) (.t 51), none⟩,
          ⟨some 5, .tk 52, none⟩]) (
      .skip)))))))) (
  .reg [⟨some 53, .bin .add (.t 10) (.c (.int .i64 1)), none⟩,
      ⟨some 10, .cp (.t 53), none⟩])))
def a76 : AC := .seq (.reg [⟨some 4, .cp (.c (.sl .own 1 [])), none⟩]) (
  .seq (.reg [⟨some 5, .cp (.c (.sl .own 1 [])), none⟩]) (
  .seq (.seq (.reg [⟨some 10, .cp (.c (.int .i64 0)), none⟩]) (
  .block 0 (
    .loop [false, false, false, false, false, false, true, true, false, true, false, true, true, true, true, true, true, true, true, true, true, true, true, true, true, true, true, true, true, true, true, true, true, true, true, true, true, true, true, true, true, true, true, true, true, true, true, true, true, true, true, true, true, true] [] a76_l0))) (
  .seq (.reg [⟨some 54, .tk 5, none⟩,
      ⟨some 4, .tk 54, none⟩]) (
  .ret))))
def af76 : AFn := ⟨55, 0, [.t 4], a76⟩
theorem ak76 : chkF Try.prog 76 af76 = true := by kernel_rfl

-- f118 fingerpost/serial.Right  boxes 0 notes []
def a118 : AC := .seq (.reg [⟨some 2, .cp (.c (.bool false)), none⟩]) (
  .seq (.reg [⟨some 3, .cp (.t 0), none⟩,
      ⟨some 4, .bin .geq (.t 3) (.c (.int .i64 0)), none⟩,
      ⟨some 5, .cp (.t 4), none⟩,
      ⟨some 6, .cp (.t 0), some (5, true)⟩,
      ⟨some 7, .bin .leq (.t 6) (.c (.int .i64 65535)), some (5, true)⟩,
      ⟨some 8, .pick (.t 5) (.t 7) (.c (.bool false)), none⟩,
      ⟨some 2, .cp (.t 8), none⟩]) (
  .ret))
def af118 : AFn := ⟨9, 0, [.t 2], a118⟩
theorem ak118 : chkF Try.prog 118 af118 = true := by kernel_rfl

-- f119 fingerpost/serial.Near  boxes 0 notes []
def a119 : AC := .seq (.reg [⟨some 4, .cp (.c (.bool false)), none⟩]) (
  .seq (.reg [⟨some 6, .cp (.t 0), none⟩,
      ⟨some 7, .cp (.t 1), none⟩,
      ⟨some 8, .call 124 [.t 6, .t 7], none⟩,
      ⟨some 5, .cp (.t 8), none⟩]) (
  .seq (.reg [⟨some 9, .cp (.t 5), none⟩,
      ⟨some 10, .bin .geq (.t 9) (.c (.int .i64 0)), none⟩,
      ⟨some 11, .cp (.t 10), none⟩,
      ⟨some 12, .cp (.t 5), some (11, true)⟩,
      ⟨some 13, .bin .lss (.t 12) (.c (.int .i64 8)), some (11, true)⟩,
      ⟨some 14, .pick (.t 11) (.t 13) (.c (.bool false)), none⟩,
      ⟨some 4, .cp (.t 14), none⟩]) (
  .ret)))
def af119 : AFn := ⟨15, 0, [.t 4], a119⟩
theorem ak119 : chkF Try.prog 119 af119 = true := by kernel_rfl

-- f120 slices.Contains[[]int,int]  boxes 0 notes []
def a120 : AC := .seq (.reg [⟨some 4, .cp (.c (.bool false)), none⟩]) (
  .seq (.reg [⟨some 5, .tk 0, none⟩,
      ⟨some 6, .cp (.t 1), none⟩,
      ⟨some 7, .call 135 [.t 5, .t 6], none⟩,
      ⟨some 8, .bin .geq (.t 7) (.c (.int .i64 0)), none⟩,
      ⟨some 4, .cp (.t 8), none⟩]) (
  .ret))
def af120 : AFn := ⟨9, 0, [.t 4], a120⟩
theorem ak120 : chkF Try.prog 120 af120 = true := by kernel_rfl

-- f121 fingerpost/window.seqs  boxes 2 notes []
def a121_l0 : AC := .seq (.reg [⟨some 10, .bin .lss (.t 9) (.t 8), none⟩]) (
  .seq (.cond (.t 10) (
    .skip) (
    .exit 0)) (
  .seq (.block 1 (
    .seq (.reg [⟨some 11, .iaE 8 (.t 7) (.t 9), none⟩,
        ⟨some 12, .ld (some 8) (.t 11), none⟩,
        ⟨some 5, .alloc 1 8 [.int .i64 0, .int .u32 0, .int .u32 0, .int .u32 0, .int .u32 0, .int .i64 0, .bool false, .sl .own 4 []], none⟩,
        ⟨none, .st 8 (.t 5) (.t 12), none⟩]) (
    .reg [⟨some 13, .tk 3, none⟩,
        ⟨some 14, .fa 5 (.t 5), none⟩,
        ⟨some 15, .ld none (.t 14), none⟩,
        ⟨some 16, .bs 1 [.t 15], none⟩,
        ⟨some 17, .app 1 8 (.t 13) (.t 16), none⟩,
        ⟨some 3, .tk 17, none⟩]))) (
  .reg [⟨some 18, .bin .add (.t 9) (.c (.int .i64 1)), none⟩,
      ⟨some 9, .cp (.t 18), none⟩])))
def a121 : AC := .seq (.reg [⟨some 1, .box 0 2 (.t 0), none⟩,
      ⟨some 2, .cp (.c (.sl .own 1 [])), none⟩]) (
  .seq (.reg [⟨some 3, .cp (.c (.sl .own 1 [])), none⟩]) (
  .seq (.seq (.reg [⟨some 6, .fa 1 (.t 1), none⟩,
      ⟨some 7, .ld none (.t 6), none⟩,
      ⟨some 8, .len (.t 7), none⟩,
      ⟨some 9, .cp (.c (.int .i64 0)), none⟩]) (
  .block 0 (
    .loop [false, false, false, false, false, true, false, false, false, false, true, true, true, true, true, true, true, true, true] [1] a121_l0))) (
  .seq (.reg [⟨some 19, .tk 3, none⟩,
      ⟨some 2, .tk 19, none⟩]) (
  .ret))))
def af121 : AFn := ⟨20, 2, [.t 2], a121⟩
theorem ak121 : chkF Try.prog 121 af121 = true := by kernel_rfl

-- f122 fingerpost/window.put  boxes 2 notes []
def a122_l0 : AC := .seq (.reg [⟨some 14, .bin .lss (.t 13) (.t 12), none⟩]) (
  .seq (.cond (.t 14) (
    .skip) (
    .exit 0)) (
  .seq (.block 1 (
    .seq (.reg [⟨some 15, .cp (.t 13), none⟩,
        ⟨some 16, .iaE 8 (.t 11) (.t 13), none⟩,
        ⟨some 17, .ld (some 8) (.t 16), none⟩,
        ⟨some 7, .alloc 1 8 [.int .i64 0, .int .u32 0, .int .u32 0, .int .u32 0, .int .u32 0, .int .i64 0, .bool false, .sl .own 4 []], none⟩,
        ⟨some 6, .cp (.t 15), none⟩,
        ⟨none, .st 8 (.t 7) (.t 17), none⟩]) (
    .seq (.reg [⟨some 18, .fa 5 (.t 7), none⟩,
        ⟨some 19, .ld none (.t 18), none⟩,
        ⟨some 20, .fa 5 (.t 3), none⟩,
        ⟨some 21, .ld none (.t 20), none⟩,
        ⟨some 22, .bin .gtr (.t 19) (.t 21), none⟩]) (
    .cond (.t 22) (
      .seq (.reg [⟨some 23, .cp (.t 6), none⟩,
          ⟨some 5, .cp (.t 23), none⟩]) (
      .exit 0)) (
      .skip))))) (
  .reg [⟨some 24, .bin .add (.t 13) (.c (.int .i64 1)), none⟩,
      ⟨some 13, .cp (.t 24), none⟩])))
def a122 : AC := .seq (.reg [⟨some 3, .box 0 8 (.t 1), none⟩,
      ⟨some 4, .cp (.c (.sl .own 8 [])), none⟩]) (
  .scope (.seq (.reg [⟨some 9, .cp (.t 0), none⟩,
      ⟨some 10, .len (.t 9), none⟩,
      ⟨some 5, .cp (.t 10), none⟩]) (
  .seq (.skip) (
  .seq (.seq (.reg [⟨some 11, .cp (.t 0), none⟩,
      ⟨some 12, .len (.t 11), none⟩,
      ⟨some 13, .cp (.c (.int .i64 0)), none⟩]) (
  .block 0 (
    .loop [false, false, false, false, false, false, true, true, false, false, false, false, false, false, true, true, true, true, true, true, true, true, true, true, true] [1] a122_l0))) (
  .seq (.reg [⟨some 25, .cp (.t 0), none⟩,
      ⟨some 26, .cp (.t 5), none⟩,
      ⟨some 27, .sub 8 (.t 25) none (some (.t 26)) none, none⟩,
      ⟨some 28, .app 8 64 (.c (.sl .own 8 [])) (.t 27), none⟩,
      ⟨some 8, .tk 28, none⟩]) (
  .seq (.reg [⟨some 29, .tk 8, none⟩,
      ⟨some 30, .ld (some 8) (.t 3), none⟩,
      ⟨some 31, .bs 8 [.t 30], none⟩,
      ⟨some 32, .app 8 64 (.t 29) (.t 31), none⟩,
      ⟨some 8, .tk 32, none⟩]) (
  .seq (.reg [⟨some 33, .tk 8, none⟩,
      ⟨some 34, .tk 0, none⟩,
      ⟨some 35, .cp (.t 5), none⟩,
      ⟨some 36, .sub 8 (.t 34) (some (.t 35)) none none, none⟩,
      ⟨some 37, .app 8 64 (.t 33) (.t 36), none⟩,
      ⟨some 4, .tk 37, none⟩]) (
  .ret))))))))
def af122 : AFn := ⟨38, 2, [.t 4], a122⟩
theorem ak122 : chkF Try.prog 122 af122 = true := by kernel_rfl

-- f123 fingerpost/window.own  boxes 2 notes []
def a123 : AC := .seq (.reg [⟨some 1, .box 0 8 (.t 0), none⟩,
      ⟨some 2, .alloc 1 8 [.int .i64 0, .int .u32 0, .int .u32 0, .int .u32 0, .int .u32 0, .int .i64 0, .bool false, .sl .own 4 []], none⟩]) (
  .seq (.reg [⟨some 3, .fa 7 (.t 1), none⟩,
      ⟨some 4, .ldt (.t 3), none⟩,
      ⟨some 5, .app 4 32 (.c (.sl .own 4 [])) (.t 4), none⟩,
      ⟨some 6, .fa 7 (.t 1), none⟩,
      ⟨none, .stt (.t 6) 5, none⟩]) (
  .seq (.reg [⟨some 7, .ld (some 8) (.t 1), none⟩,
      ⟨none, .st 8 (.t 2) (.t 7), none⟩]) (
  .ret)))
def af123 : AFn := ⟨8, 2, [.c 2 (some 8)], a123⟩
theorem ak123 : chkF Try.prog 123 af123 = true := by kernel_rfl

-- f124 fingerpost/serial.Ahead  boxes 0 notes []
def a124 : AC := .seq (.reg [⟨some 4, .cp (.c (.int .i64 0)), none⟩]) (
  .seq (.seq (.reg [⟨some 5, .cp (.t 0), none⟩,
      ⟨some 6, .call 118 [.t 5], none⟩,
      ⟨some 7, .un .not (.t 6), none⟩,
      ⟨some 8, .cp (.t 7), none⟩,
      ⟨some 9, .cp (.t 1), some (8, false)⟩,
      ⟨some 10, .call 118 [.t 9], some (8, false)⟩,
      ⟨some 11, .un .not (.t 10), some (8, false)⟩,
      ⟨some 12, .pick (.t 8) (.c (.bool true)) (.t 11), none⟩,
      ⟨some 13, .cp (.t 12), none⟩,
      ⟨some 14, .cp (.t 0), some (13, false)⟩,
      ⟨some 15, .cp (.t 1), some (13, false)⟩,
      ⟨some 16, .bin .lss (.t 14) (.t 15), some (13, false)⟩,
      ⟨some 17, .pick (.t 13) (.c (.bool true)) (.t 16), none⟩]) (
  .cond (.t 17) (
    .seq (.reg [⟨some 4, .cp (.c (.int .i64 (-1))), none⟩]) (
    .ret)) (
    .skip))) (
  .seq (.reg [⟨some 18, .cp (.t 0), none⟩,
      ⟨some 19, .cp (.t 1), none⟩,
      ⟨some 20, .bin .sub (.t 18) (.t 19), none⟩,
      ⟨some 4, .cp (.t 20), none⟩]) (
  .ret)))
def af124 : AFn := ⟨21, 0, [.t 4], a124⟩
theorem ak124 : chkF Try.prog 124 af124 = true := by kernel_rfl

-- f125 slices.EqualFunc[[]fingerpost/api.Part,[]fingerpost/api.Part,fingerpost/api.Part,fingerpost/api.Part]  boxes 2 notes ["Op.call 'call'"]
def a125_l0 : AC := .seq (.reg [⟨some 18, .bin .lss (.t 17) (.t 16), none⟩]) (
  .seq (.cond (.t 18) (
    .skip) (
    .exit 0)) (
  .seq (.block 1 (
    .seq (.reg [⟨some 19, .cp (.t 17), none⟩,
        ⟨some 20, .iaE 8 (.t 15) (.t 17), none⟩,
        ⟨some 21, .ld (some 8) (.t 20), none⟩,
        ⟨some 8, .alloc 0 8 [.int .i64 0, .int .u32 0, .int .u32 0, .int .u32 0, .int .u32 0, .int .i64 0, .bool false, .sl .own 4 []], none⟩,
        ⟨some 7, .cp (.t 19), none⟩,
        ⟨none, .st 8 (.t 8) (.t 21), none⟩]) (
    .seq (.reg [⟨some 22, .cp (.t 1), none⟩,
        ⟨some 23, .cp (.t 7), none⟩,
        ⟨some 24, .iaE 8 (.t 22) (.t 23), none⟩,
        ⟨some 25, .ld (some 8) (.t 24), none⟩,
        ⟨some 9, .alloc 1 8 [.int .i64 0, .int .u32 0, .int .u32 0, .int .u32 0, .int .u32 0, .int .i64 0, .bool false, .sl .own 4 []], none⟩,
        ⟨none, .st 8 (.t 9) (.t 25), none⟩]) (
    .seq (.reg [⟨some 26, .cp (.t 2), none⟩,
        ⟨some 27, .ld (some 8) (.t 8), none⟩,
        ⟨some 28, .ld (some 8) (.t 9), none⟩,
        ⟨some 29, .callv 26 35 [.t 27, .t 28], none⟩,
        ⟨some 30, .un .not (.t 29), none⟩]) (
    .cond (.t 30) (
      .seq (.reg [⟨some 6, .cp (.c (.bool false)), none⟩]) (
      .ret)) (
      .skip)))))) (
  .reg [⟨some 31, .bin .add (.t 17) (.c (.int .i64 1)), none⟩,
      ⟨some 17, .cp (.t 31), none⟩])))
def a125 : AC := .seq (.reg [⟨some 6, .cp (.c (.bool false)), none⟩]) (
  .seq (.seq (.reg [⟨some 10, .cp (.t 0), none⟩,
      ⟨some 11, .len (.t 10), none⟩,
      ⟨some 12, .cp (.t 1), none⟩,
      ⟨some 13, .len (.t 12), none⟩,
      ⟨some 14, .bin .neq (.t 11) (.t 13), none⟩]) (
  .cond (.t 14) (
    .seq (.reg [⟨some 6, .cp (.c (.bool false)), none⟩]) (
    .ret)) (
    .skip))) (
  .seq (.seq (.reg [⟨some 15, .tk 0, none⟩,
      ⟨some 16, .len (.t 15), none⟩,
      ⟨some 17, .cp (.c (.int .i64 0)), none⟩]) (
  .block 0 (
    .loop [false, false, false, false, false, false, true, true, true, true, false, false, false, false, false, false, false, false, true, true, true, true, true, true, true, true, true, true, true, true, true, true] [0, 1] a125_l0))) (
  .seq (.reg [⟨some 6, .cp (.c (.bool true)), none⟩]) (
  .ret))))
def af125 : AFn := ⟨32, 2, [.t 6], a125⟩
theorem ak125 : chkF Try.prog 125 af125 = true := by kernel_rfl

-- f128 fingerpost/fingerpostref15.past  boxes 0 notes []
def a128_l0 : AC := .seq (.reg [⟨some 10, .bin .lss (.t 9) (.t 8), none⟩]) (
  .seq (.cond (.t 10) (
    .skip) (
    .exit 0)) (
  .seq (.block 1 (
    .seq (.reg [⟨some 11, .iaE 1 (.t 7) (.t 9), none⟩,
        ⟨some 12, .ld none (.t 11), none⟩,
        ⟨some 6, .cp (.t 12), none⟩]) (
    .seq (.reg [⟨some 13, .cp (.t 6), none⟩,
        ⟨some 14, .cp (.t 1), none⟩,
        ⟨some 15, .bin .gtr (.t 13) (.t 14), none⟩,
        ⟨some 16, .cp (.t 15), none⟩,
        ⟨some 17, .cp (.t 6), some (16, true)⟩,
        ⟨some 18, .call 129 [.t 17], some (16, true)⟩,
        ⟨some 19, .pick (.t 16) (.t 18) (.c (.bool false)), none⟩]) (
    .cond (.t 19) (
      .seq (.reg [⟨some 4, .cp (.c (.bool false)), none⟩]) (
      .ret)) (
      .skip))))) (
  .reg [⟨some 20, .bin .add (.t 9) (.c (.int .i64 1)), none⟩,
      ⟨some 9, .cp (.t 20), none⟩])))
def a128 : AC := .seq (.reg [⟨some 4, .cp (.c (.bool false)), none⟩]) (
  .seq (.seq (.reg [⟨some 7, .tk 0, none⟩,
      ⟨some 8, .len (.t 7), none⟩,
      ⟨some 9, .cp (.c (.int .i64 0)), none⟩]) (
  .block 0 (
    .loop [false, false, false, false, true, false, true, false, false, false, true, true, true, true, true, true, true, true, true, true, true] [] a128_l0))) (
  .seq (.reg [⟨some 4, .cp (.c (.bool true)), none⟩]) (
  .ret)))
def af128 : AFn := ⟨21, 0, [.t 4], a128⟩
theorem ak128 : chkF Try.prog 128 af128 = true := by kernel_rfl

-- f129 fingerpost/fingerpostref15.Right  boxes 0 notes []
def a129 : AC := .seq (.reg [⟨some 2, .cp (.c (.bool false)), none⟩]) (
  .seq (.reg [⟨some 3, .cp (.t 0), none⟩,
      ⟨some 4, .bin .geq (.t 3) (.c (.int .i64 0)), none⟩,
      ⟨some 5, .cp (.t 4), none⟩,
      ⟨some 6, .cp (.t 0), some (5, true)⟩,
      ⟨some 7, .bin .leq (.t 6) (.c (.int .i64 65535)), some (5, true)⟩,
      ⟨some 8, .pick (.t 5) (.t 7) (.c (.bool false)), none⟩,
      ⟨some 2, .cp (.t 8), none⟩]) (
  .ret))
def af129 : AFn := ⟨9, 0, [.t 2], a129⟩
theorem ak129 : chkF Try.prog 129 af129 = true := by kernel_rfl

-- f135 slices.Index[[]int,int]  boxes 0 notes []
def a135_l0 : AC := .seq (.reg [⟨some 9, .bin .lss (.t 8) (.t 7), none⟩]) (
  .seq (.cond (.t 9) (
    .skip) (
    .exit 0)) (
  .seq (.block 1 (
    .seq (.reg [⟨some 10, .cp (.t 8), none⟩,
        ⟨some 5, .cp (.t 10), none⟩]) (
    .seq (.reg [⟨some 11, .cp (.t 1), none⟩,
        ⟨some 12, .cp (.t 0), none⟩,
        ⟨some 13, .cp (.t 5), none⟩,
        ⟨some 14, .iaE 1 (.t 12) (.t 13), none⟩,
        ⟨some 15, .ld none (.t 14), none⟩,
        ⟨some 16, .bin .eql (.t 11) (.t 15), none⟩]) (
    .cond (.t 16) (
      .seq (.reg [⟨some 17, .cp (.t 5), none⟩,
          ⟨some 4, .cp (.t 17), none⟩]) (
      .ret)) (
      .skip))))) (
  .reg [⟨some 18, .bin .add (.t 8) (.c (.int .i64 1)), none⟩,
      ⟨some 8, .cp (.t 18), none⟩])))
def a135 : AC := .seq (.reg [⟨some 4, .cp (.c (.int .i64 0)), none⟩]) (
  .seq (.seq (.reg [⟨some 6, .cp (.t 0), none⟩,
      ⟨some 7, .len (.t 6), none⟩,
      ⟨some 8, .cp (.c (.int .i64 0)), none⟩]) (
  .block 0 (
    .loop [false, false, false, false, true, true, false, false, false, true, true, true, true, true, true, true, true, true, true] [] a135_l0))) (
  .seq (.reg [⟨some 4, .cp (.c (.int .i64 (-1))), none⟩]) (
  .ret)))
def af135 : AFn := ⟨19, 0, [.t 4], a135⟩
theorem ak135 : chkF Try.prog 135 af135 = true := by kernel_rfl

end Go.Proofs.Ytkcdeefnkbbacaa

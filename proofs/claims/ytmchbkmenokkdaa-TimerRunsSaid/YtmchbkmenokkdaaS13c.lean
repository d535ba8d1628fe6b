/- The functions as data, and that they are the program's. -/
import Derived.Test.YtmchbkmenokkdaaAwN
set_option maxRecDepth 100000
namespace Go.Proofs.Ytmchbkmenokkdaa
open Go.RowKit
-- f5 fingerpost/fingerpostlaw13.TimerOnce  boxes 1 notes []
def a5_l0 : AC := .seq (.seq (.reg [⟨some 42, .cp (.t 8), none⟩,
      ⟨some 43, .fa 2 (.t 2), none⟩,
      ⟨some 44, .ld none (.t 43), none⟩,
      ⟨some 45, .cp (.t 1), none⟩,
      ⟨some 46, .cv (.int .u64) (.t 45), none⟩,
      ⟨some 47, .bin .rem (.t 46) (.c (.int .u64 20)), none⟩,
      ⟨some 48, .cv (.int .i64) (.t 47), none⟩,
      ⟨some 49, .bin .add (.t 44) (.t 48), none⟩,
      ⟨some 50, .bin .leq (.t 42) (.t 49), none⟩]) (
  .cond (.t 50) (
    .skip) (
    .exit 0))) (
  .seq (.block 1 (
    .seq (.reg [⟨some 54, .tk 5, none⟩,
        ⟨some 55, .call 30 [.t 54], none⟩,
        ⟨some 53, .tk 55, none⟩,
        ⟨some 56, .extt 53 0, none⟩,
        ⟨some 57, .extt 53 1, none⟩,
        ⟨some 9, .tk 56, none⟩,
        ⟨some 10, .tk 57, none⟩]) (
    .seq (.seq (.reg [⟨some 58, .cp (.t 10), none⟩,
        ⟨some 59, .len (.t 58), none⟩,
        ⟨some 60, .bin .gtr (.t 59) (.c (.int .i64 0)), none⟩]) (
    .cond (.t 60) (
      .seq (.reg [⟨some 61, .cp (.t 7), none⟩,
          ⟨some 62, .bin .add (.t 61) (.c (.int .i64 1)), none⟩,
          ⟨some 7, .cp (.t 62), none⟩]) (
      .seq (.drw [⟨some 63, .cp (.t 8), none⟩,
          ⟨some 64, .fa 2 (.t 2), none⟩,
          ⟨some 65, .ld none (.t 64), none⟩,
          ⟨some 66, .bin .neq (.t 63) (.t 65), none⟩,
          ⟨some 67, .cp (.t 66), none⟩,
          ⟨some 68, .cp (.t 10), some (67, false)⟩,
          ⟨some 69, .ia 3 none (.t 68) (.c (.int .i64 0)), some (67, false)⟩,
          ⟨some 70, .fa 0 (.t 69), some (67, false)⟩,
          ⟨some 71, .ld none (.t 70), some (67, false)⟩,
          ⟨some 72, .fa 0 (.t 2), some (67, false)⟩,
          ⟨some 73, .ld none (.t 72), some (67, false)⟩,
          ⟨some 74, .bin .neq (.t 71) (.t 73), some (67, false)⟩,
          ⟨some 75, .pick (.t 67) (.c (.bool true)) (.t 74), none⟩,
          ⟨some 76, .cp (.t 75), none⟩,
          ⟨some 77, .cp (.t 10), some (76, false)⟩,
          ⟨some 78, .ia 3 none (.t 77) (.c (.int .i64 0)), some (76, false)⟩,
          ⟨some 79, .fa 1 (.t 78), some (76, false)⟩,
          ⟨some 80, .ld none (.t 79), some (76, false)⟩,
          ⟨some 81, .fa 1 (.t 2), some (76, false)⟩,
          ⟨some 82, .ld none (.t 81), some (76, false)⟩,
          ⟨some 83, .bin .neq (.t 80) (.t 82), some (76, false)⟩,
          ⟨some 84, .pick (.t 76) (.c (.bool true)) (.t 83), none⟩] []) (
      .cond (.t 84) (
        .seq (.reg [⟨some 4, .cp (.c (.bool false)), none⟩]) (
        .ret)) (
        .skip)))) (
      .skip))) (
    .seq (.seq (.drw [⟨some 85, .cp (.t 8), none⟩,
        ⟨some 86, .fa 2 (.t 2), none⟩,
        ⟨some 87, .ld none (.t 86), none⟩,
        ⟨some 88, .bin .lss (.t 85) (.t 87), none⟩,
        ⟨some 89, .cp (.t 88), none⟩,
        ⟨some 90, .cp (.t 9), some (89, true)⟩,
        ⟨some 91, .fa 0 (.t 2), some (89, true)⟩,
        ⟨some 92, .ld none (.t 91), some (89, true)⟩,
        ⟨some 93, .fa 1 (.t 2), some (89, true)⟩,
        ⟨some 94, .ld none (.t 93), some (89, true)⟩,
        ⟨some 95, .call 31 [.t 90, .t 92, .t 94], some (89, true)⟩,
        ⟨some 96, .fa 2 (.t 2), some (89, true)⟩,
        ⟨some 97, .ld none (.t 96), some (89, true)⟩,
        ⟨some 98, .cp (.t 8), some (89, true)⟩,
        ⟨some 99, .bin .sub (.t 97) (.t 98), some (89, true)⟩,
        ⟨some 100, .bin .neq (.t 95) (.t 99), some (89, true)⟩,
        ⟨some 101, .pick (.t 89) (.t 100) (.c (.bool false)), none⟩] []) (
    .cond (.t 101) (
      .seq (.reg [⟨some 4, .cp (.c (.bool false)), none⟩]) (
      .ret)) (
      .skip))) (
    .reg [⟨some 102, .tk 9, none⟩,
        ⟨some 5, .tk 102, none⟩]))))) (
  .reg [⟨some 51, .cp (.t 8), none⟩,
      ⟨some 52, .bin .add (.t 51) (.c (.int .i64 1)), none⟩,
      ⟨some 8, .cp (.t 52), none⟩]))
def a5 : AC := .seq (.reg [⟨some 2, .box 0 3 (.t 0), none⟩,
      ⟨some 4, .cp (.c (.bool false)), none⟩]) (
  .seq (.reg [⟨some 11, .fa 0 (.t 2), none⟩,
      ⟨some 12, .ld none (.t 11), none⟩,
      ⟨some 13, .cv (.int .u64) (.t 12), none⟩,
      ⟨some 14, .bin .rem (.t 13) (.c (.int .u64 4)), none⟩,
      ⟨some 15, .cv (.int .i64) (.t 14), none⟩,
      ⟨some 16, .fa 1 (.t 2), none⟩,
      ⟨some 17, .ld none (.t 16), none⟩,
      ⟨some 18, .cv (.int .u64) (.t 17), none⟩,
      ⟨some 19, .bin .rem (.t 18) (.c (.int .u64 16)), none⟩,
      ⟨some 20, .cv (.int .i64) (.t 19), none⟩,
      ⟨some 21, .fa 2 (.t 2), none⟩,
      ⟨some 22, .ld none (.t 21), none⟩,
      ⟨some 23, .cv (.int .u64) (.t 22), none⟩,
      ⟨some 24, .bin .rem (.t 23) (.c (.int .u64 50)), none⟩,
      ⟨some 25, .cv (.int .i64) (.t 24), none⟩,
      ⟨some 26, .bin .add (.c (.int .i64 1)) (.t 25), none⟩,
      ⟨some 27, .fa 0 (.t 2), none⟩,
      ⟨none, .st 1 (.t 27) (.t 15), none⟩,
      ⟨some 28, .fa 1 (.t 2), none⟩,
      ⟨none, .st 1 (.t 28) (.t 20), none⟩,
      ⟨some 29, .fa 2 (.t 2), none⟩,
      ⟨none, .st 1 (.t 29) (.t 26), none⟩]) (
  .seq (.reg [⟨some 31, .ld (some 3) (.t 2), none⟩,
      ⟨some 32, .call 29 [.c (.sl .own 3 []), .t 31], none⟩,
      ⟨some 30, .tk 32, none⟩,
      ⟨some 33, .extt 30 0, none⟩,
      ⟨some 34, .ext (.t 30) 1, none⟩,
      ⟨some 5, .tk 33, none⟩,
      ⟨some 6, .cp (.t 34), none⟩]) (
  .seq (.seq (.reg [⟨some 35, .cp (.t 6), none⟩,
      ⟨some 36, .bin .neq (.t 35) (.c (.int .i64 0)), none⟩,
      ⟨some 37, .cp (.t 36), none⟩,
      ⟨some 38, .cp (.t 5), some (37, false)⟩,
      ⟨some 39, .len (.t 38), some (37, false)⟩,
      ⟨some 40, .bin .neq (.t 39) (.c (.int .i64 1)), some (37, false)⟩,
      ⟨some 41, .pick (.t 37) (.c (.bool true)) (.t 40), none⟩]) (
  .cond (.t 41) (
    .seq (.reg [⟨some 4, .cp (.c (.bool false)), none⟩]) (
    .ret)) (
    .skip))) (
  .seq (.reg [⟨some 7, .cp (.c (.int .i64 0)), none⟩]) (
  .seq (.seq (.reg [⟨some 8, .cp (.c (.int .i64 1)), none⟩]) (
  .block 0 (
    .loop [false, false, false, false, true, false, false, false, false, true, true, false, false, false, false, false, false, false, false, false, false, false, false, false, false, false, false, false, false, false, false, false, false, false, false, false, false, false, false, false, false, false, true, true, true, true, true, true, true, true, true, true, true, true, true, true, true, true, true, true, true, true, true, true, true, true, true, true, true, true, true, true, true, true, true, true, true, true, true, true, true, true, true, true, true, true, true, true, true, true, true, true, true, true, true, true, true, true, true, true, true, true, true] [] a5_l0))) (
  .seq (.reg [⟨some 103, .cp (.t 7), none⟩,
      ⟨some 104, .bin .eql (.t 103) (.c (.int .i64 1)), none⟩,
      ⟨some 105, .cp (.t 104), none⟩,
      ⟨some 106, .tk 5, some (105, true)⟩,
      ⟨some 107, .len (.t 106), some (105, true)⟩,
      ⟨some 108, .bin .eql (.t 107) (.c (.int .i64 0)), some (105, true)⟩,
      ⟨some 109, .pick (.t 105) (.t 108) (.c (.bool false)), none⟩,
      ⟨some 110, .cp (.t 109), none⟩,
      ⟨some 111, .call 32 [], some (110, true)⟩,
      ⟨some 112, .pick (.t 110) (.t 111) (.c (.bool false)), none⟩,
      ⟨some 4, .cp (.t 112), none⟩]) (
  .ret)))))))
def af5 : AFn := ⟨113, 1, [.t 4], a5⟩
theorem ak5 : chkF Try.prog 5 af5 = true := by kernel_rfl

-- f6 fingerpost/fingerpostlaw13.TimerRuns  boxes 0 notes []
def a6 : AC := .seq (.reg [⟨some 6, .cp (.c (.bool false)), none⟩]) (
  .seq (.seq (.reg [⟨some 16, .cp (.t 0), none⟩,
      ⟨some 17, .len (.t 16), none⟩,
      ⟨some 18, .bin .gtr (.t 17) (.c (.int .i64 100)), none⟩]) (
  .cond (.t 18) (
    .seq (.reg [⟨some 19, .call 32 [], none⟩,
        ⟨some 6, .cp (.t 19), none⟩]) (
    .ret)) (
    .skip))) (
  .seq (.reg [⟨some 20, .cp (.t 1), none⟩,
      ⟨some 21, .cv (.int .u64) (.t 20), none⟩,
      ⟨some 22, .bin .rem (.t 21) (.c (.int .u64 60)), none⟩,
      ⟨some 23, .cv (.int .i64) (.t 22), none⟩,
      ⟨some 1, .cp (.t 23), none⟩]) (
  .seq (.reg [⟨some 25, .cp (.t 0), none⟩,
      ⟨some 26, .cp (.t 1), none⟩,
      ⟨some 27, .call 33 [.t 25, .t 26], none⟩,
      ⟨some 24, .tk 27, none⟩,
      ⟨some 28, .extt 24 0, none⟩,
      ⟨some 29, .extt 24 1, none⟩,
      ⟨some 7, .tk 28, none⟩,
      ⟨some 8, .tk 29, none⟩]) (
  .seq (.reg [⟨some 31, .cp (.t 0), none⟩,
      ⟨some 32, .cp (.t 1), none⟩,
      ⟨some 33, .call 34 [.t 31, .t 32], none⟩,
      ⟨some 30, .tk 33, none⟩,
      ⟨some 34, .extt 30 0, none⟩,
      ⟨some 35, .extt 30 1, none⟩,
      ⟨some 9, .tk 34, none⟩,
      ⟨some 10, .tk 35, none⟩]) (
  .seq (.seq (.reg [⟨some 36, .cp (.t 7), none⟩,
      ⟨some 37, .tk 9, none⟩,
      ⟨some 38, .call 35 [.t 36, .t 37], none⟩,
      ⟨some 39, .un .not (.t 38), none⟩,
      ⟨some 40, .cp (.t 39), none⟩,
      ⟨some 41, .cp (.t 8), some (40, false)⟩,
      ⟨some 42, .tk 10, some (40, false)⟩,
      ⟨some 43, .call 35 [.t 41, .t 42], some (40, false)⟩,
      ⟨some 44, .un .not (.t 43), some (40, false)⟩,
      ⟨some 45, .pick (.t 40) (.c (.bool true)) (.t 44), none⟩,
      ⟨some 46, .cp (.t 45), none⟩,
      ⟨some 47, .cp (.t 0), some (46, false)⟩,
      ⟨some 48, .cp (.t 2), some (46, false)⟩,
      ⟨some 49, .call 36 [.t 47, .t 48], some (46, false)⟩,
      ⟨some 50, .cp (.t 0), some (46, false)⟩,
      ⟨some 51, .cp (.t 2), some (46, false)⟩,
      ⟨some 52, .call 37 [.t 50, .t 51], some (46, false)⟩,
      ⟨some 53, .call 35 [.t 49, .t 52], some (46, false)⟩,
      ⟨some 54, .un .not (.t 53), some (46, false)⟩,
      ⟨some 55, .pick (.t 46) (.c (.bool true)) (.t 54), none⟩,
      ⟨some 56, .cp (.t 55), none⟩,
      ⟨some 57, .cp (.t 0), some (56, false)⟩,
      ⟨some 58, .call 38 [.t 57], some (56, false)⟩,
      ⟨some 59, .cp (.t 0), some (56, false)⟩,
      ⟨some 60, .call 39 [.t 59], some (56, false)⟩,
      ⟨some 61, .bin .neq (.t 58) (.t 60), some (56, false)⟩,
      ⟨some 62, .pick (.t 56) (.c (.bool true)) (.t 61), none⟩,
      ⟨some 63, .cp (.t 62), none⟩,
      ⟨some 64, .tk 7, some (63, false)⟩,
      ⟨some 65, .len (.t 64), some (63, false)⟩,
      ⟨some 66, .tk 8, some (63, false)⟩,
      ⟨some 67, .len (.t 66), some (63, false)⟩,
      ⟨some 68, .bin .add (.t 65) (.t 67), some (63, false)⟩,
      ⟨some 69, .cp (.t 0), some (63, false)⟩,
      ⟨some 70, .len (.t 69), some (63, false)⟩,
      ⟨some 71, .bin .neq (.t 68) (.t 70), some (63, false)⟩,
      ⟨some 72, .pick (.t 63) (.c (.bool true)) (.t 71), none⟩]) (
  .cond (.t 72) (
    .seq (.reg [⟨some 6, .cp (.c (.bool false)), none⟩]) (
    .ret)) (
    .skip))) (
  .seq (.reg [⟨some 73, .cp (.t 0), none⟩,
      ⟨some 74, .call 38 [.t 73], none⟩,
      ⟨some 11, .cp (.t 74), none⟩]) (
  .seq (.seq (.reg [⟨some 75, .cp (.t 11), none⟩,
      ⟨some 76, .bin .eql (.t 75) (.c (.int .i64 0)), none⟩]) (
  .cond (.t 76) (
    .seq (.reg [⟨some 77, .tk 0, none⟩,
        ⟨some 78, .len (.t 77), none⟩,
        ⟨some 79, .bin .eql (.t 78) (.c (.int .i64 0)), none⟩,
        ⟨some 80, .cp (.t 79), none⟩,
        ⟨some 81, .call 32 [], some (80, true)⟩,
        ⟨some 82, .pick (.t 80) (.t 81) (.c (.bool false)), none⟩,
        ⟨some 6, .cp (.t 82), none⟩]) (
    .ret)) (
    .skip))) (
  .seq (.seq (.reg [⟨some 83, .cp (.t 11), none⟩,
      ⟨some 84, .bin .lss (.t 83) (.c (.int .i64 1)), none⟩,
      ⟨some 85, .cp (.t 84), none⟩,
      ⟨some 86, .cp (.t 11), some (85, false)⟩,
      ⟨some 87, .bin .gtr (.t 86) (.c (.int .i64 900)), some (85, false)⟩,
      ⟨some 88, .pick (.t 85) (.c (.bool true)) (.t 87), none⟩]) (
  .cond (.t 88) (
    .seq (.reg [⟨some 89, .cp (.t 11), none⟩,
        ⟨some 90, .bin .gtr (.t 89) (.c (.int .i64 900)), none⟩,
        ⟨some 91, .cp (.t 90), none⟩,
        ⟨some 92, .call 32 [], some (91, true)⟩,
        ⟨some 93, .pick (.t 91) (.t 92) (.c (.bool false)), none⟩,
        ⟨some 6, .cp (.t 93), none⟩]) (
    .ret)) (
    .skip))) (
  .seq (.reg [⟨some 95, .cp (.t 0), none⟩,
      ⟨some 96, .cp (.t 11), none⟩,
      ⟨some 97, .bin .sub (.t 96) (.c (.int .i64 1)), none⟩,
      ⟨some 98, .call 33 [.t 95, .t 97], none⟩,
      ⟨some 94, .tk 98, none⟩,
      ⟨some 99, .extt 94 0, none⟩,
      ⟨some 100, .extt 94 1, none⟩,
      ⟨some 12, .tk 99, none⟩,
      ⟨some 13, .tk 100, none⟩]) (
  .seq (.reg [⟨some 102, .tk 0, none⟩,
      ⟨some 103, .cp (.t 11), none⟩,
      ⟨some 104, .call 33 [.t 102, .t 103], none⟩,
      ⟨some 101, .tk 104, none⟩,
      ⟨some 105, .extt 101 0, none⟩,
      ⟨some 106, .extt 101 1, none⟩,
      ⟨some 14, .tk 105, none⟩,
      ⟨some 15, .tk 106, none⟩]) (
  .seq (.reg [⟨some 107, .tk 13, none⟩,
      ⟨some 108, .len (.t 107), none⟩,
      ⟨some 109, .bin .eql (.t 108) (.c (.int .i64 0)), none⟩,
      ⟨some 110, .cp (.t 109), none⟩,
      ⟨some 111, .tk 15, some (110, true)⟩,
      ⟨some 112, .len (.t 111), some (110, true)⟩,
      ⟨some 113, .bin .gtr (.t 112) (.c (.int .i64 0)), some (110, true)⟩,
      ⟨some 114, .pick (.t 110) (.t 113) (.c (.bool false)), none⟩,
      ⟨some 115, .cp (.t 114), none⟩,
      ⟨some 116, .call 32 [], some (115, true)⟩,
      ⟨some 117, .pick (.t 115) (.t 116) (.c (.bool false)), none⟩,
      ⟨some 6, .cp (.t 117), none⟩]) (
  .ret))))))))))))
def af6 : AFn := ⟨118, 0, [.t 6], a6⟩
theorem ak6 : chkF Try.prog 6 af6 = true := by kernel_rfl

-- f29 fingerpost/timer.Set  boxes 2 notes []
def a29_l0 : AC := .seq (.reg [⟨some 19, .bin .lss (.t 18) (.t 17), none⟩]) (
  .seq (.cond (.t 19) (
    .skip) (
    .exit 0)) (
  .seq (.block 1 (
    .seq (.reg [⟨some 20, .cp (.t 18), none⟩,
        ⟨some 21, .ia 3 none (.t 16) (.t 18), none⟩,
        ⟨some 22, .ld (some 3) (.t 21), none⟩,
        ⟨some 8, .alloc 1 3 [.int .i64 0, .int .i64 0, .int .i64 0], none⟩,
        ⟨some 7, .cp (.t 20), none⟩,
        ⟨none, .st 3 (.t 8) (.t 22), none⟩]) (
    .seq (.reg [⟨some 23, .ld (some 3) (.t 8), none⟩,
        ⟨some 24, .ld (some 3) (.t 3), none⟩,
        ⟨some 25, .call 95 [.t 23, .t 24], none⟩,
        ⟨some 26, .un .not (.t 25), none⟩]) (
    .cond (.t 26) (
      .seq (.reg [⟨some 27, .cp (.t 7), none⟩,
          ⟨some 6, .cp (.t 27), none⟩]) (
      .exit 0)) (
      .skip))))) (
  .reg [⟨some 28, .bin .add (.t 18) (.c (.int .i64 1)), none⟩,
      ⟨some 18, .cp (.t 28), none⟩])))
def a29 : AC := .seq (.reg [⟨some 3, .box 0 3 (.t 1), none⟩,
      ⟨some 4, .cp (.c (.sl .own 3 [])), none⟩,
      ⟨some 5, .cp (.c (.int .i64 0)), none⟩]) (
  .scope (.seq (.seq (.reg [⟨some 10, .ld (some 3) (.t 3), none⟩,
      ⟨some 11, .call 94 [.t 10], none⟩,
      ⟨some 12, .un .not (.t 11), none⟩]) (
  .cond (.t 12) (
    .seq (.reg [⟨some 13, .tk 0, none⟩,
        ⟨some 4, .tk 13, none⟩,
        ⟨some 5, .cp (.c (.int .i64 1)), none⟩]) (
    .ret)) (
    .skip))) (
  .seq (.reg [⟨some 14, .cp (.t 0), none⟩,
      ⟨some 15, .len (.t 14), none⟩,
      ⟨some 6, .cp (.t 15), none⟩]) (
  .seq (.skip) (
  .seq (.seq (.reg [⟨some 16, .cp (.t 0), none⟩,
      ⟨some 17, .len (.t 16), none⟩,
      ⟨some 18, .cp (.c (.int .i64 0)), none⟩]) (
  .block 0 (
    .loop [false, false, false, false, false, false, false, true, true, false, false, false, false, false, false, false, false, false, false, true, true, true, true, true, true, true, true, true, true] [1] a29_l0))) (
  .seq (.drw [⟨some 29, .cp (.t 0), none⟩,
      ⟨some 30, .cp (.t 6), none⟩,
      ⟨some 31, .sub 3 (.t 29) none (some (.t 30)) none, none⟩,
      ⟨some 32, .fa 0 (.t 3), none⟩,
      ⟨some 33, .ld none (.t 32), none⟩,
      ⟨some 34, .fa 1 (.t 3), none⟩,
      ⟨some 35, .ld none (.t 34), none⟩,
      ⟨some 36, .call 96 [.t 31, .t 33, .t 35], none⟩,
      ⟨some 9, .tk 36, none⟩] []) (
  .seq (.reg [⟨some 37, .tk 9, none⟩,
      ⟨some 38, .ld (some 3) (.t 3), none⟩,
      ⟨some 39, .bs 3 [.t 38], none⟩,
      ⟨some 40, .app 3 24 (.t 37) (.t 39), none⟩,
      ⟨some 9, .tk 40, none⟩]) (
  .seq (.drw [⟨some 41, .tk 9, none⟩,
      ⟨some 42, .tk 0, none⟩,
      ⟨some 43, .cp (.t 6), none⟩,
      ⟨some 44, .sub 3 (.t 42) (some (.t 43)) none none, none⟩,
      ⟨some 45, .fa 0 (.t 3), none⟩,
      ⟨some 46, .ld none (.t 45), none⟩,
      ⟨some 47, .fa 1 (.t 3), none⟩,
      ⟨some 48, .ld none (.t 47), none⟩,
      ⟨some 49, .call 96 [.t 44, .t 46, .t 48], none⟩,
      ⟨some 50, .app 3 24 (.t 41) (.t 49), none⟩,
      ⟨some 4, .tk 50, none⟩,
      ⟨some 5, .cp (.c (.int .i64 0)), none⟩] []) (
  .ret)))))))))
def af29 : AFn := ⟨51, 2, [.t 4, .t 5], a29⟩
theorem ak29 : chkF Try.prog 29 af29 = true := by kernel_rfl

-- f30 fingerpost/timer.Tick  boxes 1 notes []
def a30_l0 : AC := .seq (.reg [⟨some 11, .bin .lss (.t 10) (.t 9), none⟩]) (
  .seq (.cond (.t 11) (
    .skip) (
    .exit 0)) (
  .seq (.block 1 (
    .seq (.reg [⟨some 12, .ia 3 none (.t 8) (.t 10), none⟩,
        ⟨some 13, .ld (some 3) (.t 12), none⟩,
        ⟨some 7, .alloc 0 3 [.int .i64 0, .int .i64 0, .int .i64 0], none⟩,
        ⟨none, .st 3 (.t 7) (.t 13), none⟩]) (
    .seq (.reg [⟨some 14, .fa 2 (.t 7), none⟩,
        ⟨some 15, .ld none (.t 14), none⟩,
        ⟨some 16, .bin .gtr (.t 15) (.c (.int .i64 1)), none⟩]) (
    .cond (.t 16) (
      .seq (.reg [⟨some 17, .fa 2 (.t 7), none⟩,
          ⟨some 18, .ld none (.t 17), none⟩,
          ⟨some 19, .bin .sub (.t 18) (.c (.int .i64 1)), none⟩,
          ⟨some 20, .fa 2 (.t 7), none⟩,
          ⟨none, .st 1 (.t 20) (.t 19), none⟩]) (
      .reg [⟨some 21, .tk 4, none⟩,
          ⟨some 22, .ld (some 3) (.t 7), none⟩,
          ⟨some 23, .bs 3 [.t 22], none⟩,
          ⟨some 24, .app 3 24 (.t 21) (.t 23), none⟩,
          ⟨some 4, .tk 24, none⟩])) (
      .seq (.reg [⟨some 25, .fa 2 (.t 7), none⟩,
          ⟨none, .st 1 (.t 25) (.c (.int .i64 0)), none⟩]) (
      .reg [⟨some 26, .tk 5, none⟩,
          ⟨some 27, .ld (some 3) (.t 7), none⟩,
          ⟨some 28, .bs 3 [.t 27], none⟩,
          ⟨some 29, .app 3 24 (.t 26) (.t 28), none⟩,
          ⟨some 5, .tk 29, none⟩])))))) (
  .reg [⟨some 30, .bin .add (.t 10) (.c (.int .i64 1)), none⟩,
      ⟨some 10, .cp (.t 30), none⟩])))
def a30 : AC := .seq (.reg [⟨some 2, .cp (.c (.sl .own 3 [])), none⟩,
      ⟨some 3, .cp (.c (.sl .own 3 [])), none⟩]) (
  .seq (.reg [⟨some 4, .cp (.c (.sl .own 3 [])), none⟩,
      ⟨some 5, .cp (.c (.sl .own 3 [])), none⟩]) (
  .seq (.seq (.reg [⟨some 8, .tk 0, none⟩,
      ⟨some 9, .len (.t 8), none⟩,
      ⟨some 10, .cp (.c (.int .i64 0)), none⟩]) (
  .block 0 (
    .loop [false, false, false, false, false, false, false, true, false, false, false, true, true, true, true, true, true, true, true, true, true, true, true, true, true, true, true, true, true, true, true] [0] a30_l0))) (
  .seq (.reg [⟨some 31, .tk 4, none⟩,
      ⟨some 32, .tk 5, none⟩,
      ⟨some 2, .tk 31, none⟩,
      ⟨some 3, .tk 32, none⟩]) (
  .ret))))
def af30 : AFn := ⟨33, 1, [.t 2, .t 3], a30⟩
theorem ak30 : chkF Try.prog 30 af30 = true := by kernel_rfl

-- f31 fingerpost/timer.Left  boxes 1 notes []
def a31_l0 : AC := .seq (.reg [⟨some 12, .bin .lss (.t 11) (.t 10), none⟩]) (
  .seq (.cond (.t 12) (
    .skip) (
    .exit 0)) (
  .seq (.block 1 (
    .seq (.reg [⟨some 13, .ia 3 none (.t 9) (.t 11), none⟩,
        ⟨some 14, .ld (some 3) (.t 13), none⟩,
        ⟨some 8, .alloc 0 3 [.int .i64 0, .int .i64 0, .int .i64 0], none⟩,
        ⟨none, .st 3 (.t 8) (.t 14), none⟩]) (
    .seq (.reg [⟨some 15, .fa 0 (.t 8), none⟩,
        ⟨some 16, .ld none (.t 15), none⟩,
        ⟨some 17, .cp (.t 1), none⟩,
        ⟨some 18, .bin .eql (.t 16) (.t 17), none⟩,
        ⟨some 19, .cp (.t 18), none⟩,
        ⟨some 20, .fa 1 (.t 8), some (19, true)⟩,
        ⟨some 21, .ld none (.t 20), some (19, true)⟩,
        ⟨some 22, .cp (.t 2), some (19, true)⟩,
        ⟨some 23, .bin .eql (.t 21) (.t 22), some (19, true)⟩,
        ⟨some 24, .pick (.t 19) (.t 23) (.c (.bool false)), none⟩]) (
    .cond (.t 24) (
      .seq (.reg [⟨some 25, .fa 2 (.t 8), none⟩,
          ⟨some 26, .ld none (.t 25), none⟩,
          ⟨some 6, .cp (.t 26), none⟩]) (
      .ret)) (
      .skip))))) (
  .reg [⟨some 27, .bin .add (.t 11) (.c (.int .i64 1)), none⟩,
      ⟨some 11, .cp (.t 27), none⟩])))
def a31 : AC := .seq (.reg [⟨some 6, .cp (.c (.int .i64 0)), none⟩]) (
  .seq (.seq (.reg [⟨some 9, .tk 0, none⟩,
      ⟨some 10, .len (.t 9), none⟩,
      ⟨some 11, .cp (.c (.int .i64 0)), none⟩]) (
  .block 0 (
    .loop [false, false, false, false, false, false, true, false, true, false, false, false, true, true, true, true, true, true, true, true, true, true, true, true, true, true, true, true] [0] a31_l0))) (
  .seq (.reg [⟨some 6, .cp (.c (.int .i64 0)), none⟩]) (
  .ret)))
def af31 : AFn := ⟨28, 1, [.t 6], a31⟩
theorem ak31 : chkF Try.prog 31 af31 = true := by kernel_rfl

-- f32 fingerpost/fingerpostlaw13.awake  boxes 0 notes []
def a32 : AC := .seq (.reg [⟨some 0, .cp (.c (.bool false)), none⟩]) (
  .seq (.reg [⟨some 8, .bld [.int .i64 0, .int .i64 0, .int .i64 0] [(0, 1, .c (.int .i64 2)), (1, 1, .c (.int .i64 1)), (2, 1, .c (.int .i64 2))], none⟩,
      ⟨some 9, .call 29 [.c (.sl .own 3 []), .t 8], none⟩,
      ⟨some 7, .tk 9, none⟩,
      ⟨some 10, .extt 7 0, none⟩,
      ⟨some 11, .ext (.t 7) 1, none⟩,
      ⟨some 1, .tk 10, none⟩,
      ⟨some 2, .cp (.t 11), none⟩]) (
  .seq (.reg [⟨some 13, .tk 1, none⟩,
      ⟨some 14, .bld [.int .i64 0, .int .i64 0, .int .i64 0] [(0, 1, .c (.int .i64 1)), (1, 1, .c (.int .i64 5)), (2, 1, .c (.int .i64 1))], none⟩,
      ⟨some 15, .call 29 [.t 13, .t 14], none⟩,
      ⟨some 12, .tk 15, none⟩,
      ⟨some 16, .extt 12 0, none⟩,
      ⟨some 17, .ext (.t 12) 1, none⟩,
      ⟨some 1, .tk 16, none⟩]) (
  .seq (.reg [⟨some 19, .tk 1, none⟩,
      ⟨some 20, .bld [.int .i64 0, .int .i64 0, .int .i64 0] [(0, 1, .c (.int .i64 2)), (1, 1, .c (.int .i64 1)), (2, 1, .c (.int .i64 3))], none⟩,
      ⟨some 21, .call 29 [.t 19, .t 20], none⟩,
      ⟨some 18, .tk 21, none⟩,
      ⟨some 22, .extt 18 0, none⟩,
      ⟨some 23, .ext (.t 18) 1, none⟩,
      ⟨some 1, .tk 22, none⟩]) (
  .seq (.reg [⟨some 25, .cp (.t 1), none⟩,
      ⟨some 26, .bld [.int .i64 0, .int .i64 0, .int .i64 0] [(0, 1, .c (.int .i64 4)), (1, 1, .c (.int .i64 1)), (2, 1, .c (.int .i64 3))], none⟩,
      ⟨some 27, .call 29 [.t 25, .t 26], none⟩,
      ⟨some 24, .tk 27, none⟩,
      ⟨some 28, .extt 24 0, none⟩,
      ⟨some 29, .ext (.t 24) 1, none⟩,
      ⟨some 3, .tk 28, none⟩,
      ⟨some 4, .cp (.t 29), none⟩]) (
  .seq (.reg [⟨some 31, .cp (.t 1), none⟩,
      ⟨some 32, .call 30 [.t 31], none⟩,
      ⟨some 30, .tk 32, none⟩,
      ⟨some 33, .extt 30 0, none⟩,
      ⟨some 34, .extt 30 1, none⟩,
      ⟨some 5, .tk 33, none⟩,
      ⟨some 6, .tk 34, none⟩]) (
  .seq (.seq (.reg [⟨some 35, .cp (.t 1), none⟩,
      ⟨some 36, .len (.t 35), none⟩,
      ⟨some 37, .bin .neq (.t 36) (.c (.int .i64 2)), none⟩,
      ⟨some 38, .cp (.t 37), none⟩,
      ⟨some 39, .cp (.t 6), some (38, false)⟩,
      ⟨some 40, .len (.t 39), some (38, false)⟩,
      ⟨some 41, .bin .neq (.t 40) (.c (.int .i64 1)), some (38, false)⟩,
      ⟨some 42, .pick (.t 38) (.c (.bool true)) (.t 41), none⟩,
      ⟨some 43, .cp (.t 42), none⟩,
      ⟨some 44, .cp (.t 5), some (43, false)⟩,
      ⟨some 45, .len (.t 44), some (43, false)⟩,
      ⟨some 46, .bin .neq (.t 45) (.c (.int .i64 1)), some (43, false)⟩,
      ⟨some 47, .pick (.t 43) (.c (.bool true)) (.t 46), none⟩]) (
  .cond (.t 47) (
    .seq (.reg [⟨some 0, .cp (.c (.bool false)), none⟩]) (
    .ret)) (
    .skip))) (
  .seq (.reg [⟨some 48, .cp (.t 2), none⟩,
      ⟨some 49, .bin .eql (.t 48) (.c (.int .i64 0)), none⟩,
      ⟨some 50, .cp (.t 49), none⟩,
      ⟨some 51, .cp (.t 4), some (50, true)⟩,
      ⟨some 52, .bin .eql (.t 51) (.c (.int .i64 1)), some (50, true)⟩,
      ⟨some 53, .pick (.t 50) (.t 52) (.c (.bool false)), none⟩,
      ⟨some 54, .cp (.t 53), none⟩,
      ⟨some 55, .cp (.t 1), some (54, true)⟩,
      ⟨some 56, .ia 3 none (.t 55) (.c (.int .i64 0)), some (54, true)⟩,
      ⟨some 57, .fa 0 (.t 56), some (54, true)⟩,
      ⟨some 58, .ld none (.t 57), some (54, true)⟩,
      ⟨some 59, .bin .eql (.t 58) (.c (.int .i64 1)), some (54, true)⟩,
      ⟨some 60, .pick (.t 54) (.t 59) (.c (.bool false)), none⟩,
      ⟨some 61, .cp (.t 60), none⟩,
      ⟨some 62, .cp (.t 1), some (61, true)⟩,
      ⟨some 63, .ia 3 none (.t 62) (.c (.int .i64 1)), some (61, true)⟩,
      ⟨some 64, .fa 2 (.t 63), some (61, true)⟩,
      ⟨some 65, .ld none (.t 64), some (61, true)⟩,
      ⟨some 66, .bin .eql (.t 65) (.c (.int .i64 3)), some (61, true)⟩,
      ⟨some 67, .pick (.t 61) (.t 66) (.c (.bool false)), none⟩,
      ⟨some 68, .cp (.t 67), none⟩,
      ⟨some 69, .tk 6, some (68, true)⟩,
      ⟨some 70, .ia 3 none (.t 69) (.c (.int .i64 0)), some (68, true)⟩,
      ⟨some 71, .ld (some 3) (.t 70), some (68, true)⟩,
      ⟨some 72, .bld [.int .i64 0, .int .i64 0, .int .i64 0] [(0, 1, .c (.int .i64 1)), (1, 1, .c (.int .i64 5))], some (68, true)⟩,
      ⟨some 73, .eqA false [.i, .i, .i] (.t 71) (.t 72), some (68, true)⟩,
      ⟨some 74, .pick (.t 68) (.t 73) (.c (.bool false)), none⟩,
      ⟨some 75, .cp (.t 74), none⟩,
      ⟨some 76, .cp (.t 5), some (75, true)⟩,
      ⟨some 77, .ia 3 none (.t 76) (.c (.int .i64 0)), some (75, true)⟩,
      ⟨some 78, .fa 2 (.t 77), some (75, true)⟩,
      ⟨some 79, .ld none (.t 78), some (75, true)⟩,
      ⟨some 80, .bin .eql (.t 79) (.c (.int .i64 2)), some (75, true)⟩,
      ⟨some 81, .pick (.t 75) (.t 80) (.c (.bool false)), none⟩,
      ⟨some 82, .cp (.t 81), none⟩,
      ⟨some 83, .cp (.t 1), some (82, true)⟩,
      ⟨some 84, .call 31 [.t 83, .c (.int .i64 2), .c (.int .i64 1)], some (82, true)⟩,
      ⟨some 85, .bin .eql (.t 84) (.c (.int .i64 3)), some (82, true)⟩,
      ⟨some 86, .pick (.t 82) (.t 85) (.c (.bool false)), none⟩,
      ⟨some 87, .cp (.t 86), none⟩,
      ⟨some 88, .cp (.t 1), some (87, true)⟩,
      ⟨some 89, .call 31 [.t 88, .c (.int .i64 2), .c (.int .i64 2)], some (87, true)⟩,
      ⟨some 90, .bin .eql (.t 89) (.c (.int .i64 0)), some (87, true)⟩,
      ⟨some 91, .pick (.t 87) (.t 90) (.c (.bool false)), none⟩,
      ⟨some 92, .cp (.t 91), none⟩,
      ⟨some 93, .cp (.t 1), some (92, true)⟩,
      ⟨some 94, .call 96 [.t 93, .c (.int .i64 1), .c (.int .i64 5)], some (92, true)⟩,
      ⟨some 95, .len (.t 94), some (92, true)⟩,
      ⟨some 96, .bin .eql (.t 95) (.c (.int .i64 1)), some (92, true)⟩,
      ⟨some 97, .pick (.t 92) (.t 96) (.c (.bool false)), none⟩,
      ⟨some 98, .cp (.t 97), none⟩,
      ⟨some 99, .cp (.t 1), some (98, true)⟩,
      ⟨some 100, .cp (.t 1), some (98, true)⟩,
      ⟨some 101, .call 97 [.t 99, .t 100], some (98, true)⟩,
      ⟨some 102, .pick (.t 98) (.t 101) (.c (.bool false)), none⟩,
      ⟨some 103, .cp (.t 102), none⟩,
      ⟨some 104, .tk 1, some (103, true)⟩,
      ⟨some 105, .tk 5, some (103, true)⟩,
      ⟨some 106, .call 97 [.t 104, .t 105], some (103, true)⟩,
      ⟨some 107, .un .not (.t 106), some (103, true)⟩,
      ⟨some 108, .pick (.t 103) (.t 107) (.c (.bool false)), none⟩,
      ⟨some 0, .cp (.t 108), none⟩]) (
  .ret))))))))
def af32 : AFn := ⟨109, 0, [.t 0], a32⟩
theorem ak32 : chkF Try.prog 32 af32 = true := by kernel_rfl

-- f33 fingerpost/timer.Run  boxes 0 notes []
def a33_l0 : AC := .seq (.reg [⟨some 15, .bin .lss (.t 14) (.t 13), none⟩]) (
  .seq (.cond (.t 15) (
    .skip) (
    .exit 0)) (
  .seq (.block 1 (
    .seq (.seq (.reg [⟨some 16, .cp (.t 6), none⟩,
        ⟨some 17, .len (.t 16), none⟩,
        ⟨some 18, .bin .eql (.t 17) (.c (.int .i64 0)), none⟩]) (
    .cond (.t 18) (
      .exit 0) (
      .skip))) (
    .seq (.reg [⟨some 8, .cp (.c (.sl .own 3 [])), none⟩]) (
    .seq (.reg [⟨some 20, .tk 6, none⟩,
        ⟨some 21, .call 30 [.t 20], none⟩,
        ⟨some 19, .tk 21, none⟩,
        ⟨some 22, .extt 19 0, none⟩,
        ⟨some 23, .extt 19 1, none⟩,
        ⟨some 6, .tk 22, none⟩,
        ⟨some 8, .tk 23, none⟩]) (
    .reg [⟨some 24, .tk 7, none⟩,
        ⟨some 25, .tk 8, none⟩,
        ⟨some 26, .app 3 24 (.t 24) (.t 25), none⟩,
        ⟨some 7, .tk 26, none⟩]))))) (
  .reg [⟨some 27, .bin .add (.t 14) (.c (.int .i64 1)), none⟩,
      ⟨some 14, .cp (.t 27), none⟩])))
def a33 : AC := .seq (.reg [⟨some 4, .cp (.c (.sl .own 3 [])), none⟩,
      ⟨some 5, .cp (.c (.sl .own 3 [])), none⟩]) (
  .scope (.seq (.reg [⟨some 9, .cp (.t 1), none⟩,
      ⟨some 10, .mm false [.t 9, .c (.int .i64 1000)], none⟩,
      ⟨some 1, .cp (.t 10), none⟩]) (
  .seq (.reg [⟨some 11, .tk 0, none⟩,
      ⟨some 12, .app 3 24 (.c (.sl .own 3 [])) (.t 11), none⟩,
      ⟨some 6, .tk 12, none⟩]) (
  .seq (.reg [⟨some 7, .cp (.c (.sl .own 3 [])), none⟩]) (
  .seq (.skip) (
  .seq (.seq (.reg [⟨some 13, .cp (.t 1), none⟩,
      ⟨some 14, .cp (.c (.int .i64 0)), none⟩]) (
  .block 0 (
    .loop [false, false, false, false, false, false, false, false, true, false, false, false, false, false, false, true, true, true, true, true, true, true, true, true, true, true, true, true] [] a33_l0))) (
  .seq (.reg [⟨some 28, .tk 6, none⟩,
      ⟨some 29, .tk 7, none⟩,
      ⟨some 4, .tk 28, none⟩,
      ⟨some 5, .tk 29, none⟩]) (
  .ret))))))))
def af33 : AFn := ⟨30, 0, [.t 4, .t 5], a33⟩
theorem ak33 : chkF Try.prog 33 af33 = true := by kernel_rfl

-- f34 fingerpost/fingerpostref13.Run  boxes 0 notes []
def a34_l0 : AC := .seq (.reg [⟨some 13, .bin .lss (.t 12) (.t 11), none⟩]) (
  .seq (.cond (.t 13) (
    .skip) (
    .exit 0)) (
  .seq (.block 1 (
    .seq (.reg [⟨some 15, .tk 0, none⟩,
        ⟨some 16, .call 98 [.t 15], none⟩,
        ⟨some 14, .tk 16, none⟩,
        ⟨some 17, .extt 14 0, none⟩,
        ⟨some 18, .extt 14 1, none⟩,
        ⟨some 7, .tk 17, none⟩,
        ⟨some 8, .tk 18, none⟩]) (
    .seq (.reg [⟨some 19, .tk 7, none⟩,
        ⟨some 0, .cp (.t 19), none⟩]) (
    .reg [⟨some 20, .tk 6, none⟩,
        ⟨some 21, .tk 8, none⟩,
        ⟨some 22, .app 3 24 (.t 20) (.t 21), none⟩,
        ⟨some 6, .tk 22, none⟩])))) (
  .reg [⟨some 23, .bin .add (.t 12) (.c (.int .i64 1)), none⟩,
      ⟨some 12, .cp (.t 23), none⟩])))
def a34 : AC := .seq (.reg [⟨some 4, .cp (.c (.sl .own 3 [])), none⟩,
      ⟨some 5, .cp (.c (.sl .own 3 [])), none⟩]) (
  .seq (.reg [⟨some 6, .cp (.c (.sl .own 3 [])), none⟩]) (
  .seq (.seq (.reg [⟨some 9, .cp (.t 1), none⟩,
      ⟨some 10, .mm false [.t 9, .c (.int .i64 1000)], none⟩,
      ⟨some 11, .mm true [.c (.int .i64 0), .t 10], none⟩,
      ⟨some 12, .cp (.c (.int .i64 0)), none⟩]) (
  .block 0 (
    .loop [false, false, false, false, false, false, false, true, true, false, false, false, false, true, true, true, true, true, true, true, true, true, true, true] [] a34_l0))) (
  .seq (.reg [⟨some 24, .tk 0, none⟩,
      ⟨some 25, .tk 6, none⟩,
      ⟨some 4, .tk 24, none⟩,
      ⟨some 5, .tk 25, none⟩]) (
  .ret))))
def af34 : AFn := ⟨26, 0, [.t 4, .t 5], a34⟩
theorem ak34 : chkF Try.prog 34 af34 = true := by kernel_rfl

-- f35 fingerpost/fingerpostref13.Same  boxes 0 notes []
def a35_l0 : AC := .seq (.reg [⟨some 14, .bin .lss (.t 13) (.t 12), none⟩]) (
  .seq (.cond (.t 14) (
    .skip) (
    .exit 0)) (
  .seq (.block 1 (
    .seq (.reg [⟨some 15, .cp (.t 13), none⟩,
        ⟨some 5, .cp (.t 15), none⟩]) (
    .seq (.drw [⟨some 16, .cp (.t 0), none⟩,
        ⟨some 17, .cp (.t 5), none⟩,
        ⟨some 18, .ia 3 none (.t 16) (.t 17), none⟩,
        ⟨some 19, .ld (some 3) (.t 18), none⟩,
        ⟨some 20, .cp (.t 1), none⟩,
        ⟨some 21, .cp (.t 5), none⟩,
        ⟨some 22, .ia 3 none (.t 20) (.t 21), none⟩,
        ⟨some 23, .ld (some 3) (.t 22), none⟩,
        ⟨some 24, .eqA true [.i, .i, .i] (.t 19) (.t 23), none⟩] []) (
    .cond (.t 24) (
      .seq (.reg [⟨some 4, .cp (.c (.bool false)), none⟩]) (
      .ret)) (
      .skip))))) (
  .reg [⟨some 25, .bin .add (.t 13) (.c (.int .i64 1)), none⟩,
      ⟨some 13, .cp (.t 25), none⟩])))
def a35 : AC := .seq (.reg [⟨some 4, .cp (.c (.bool false)), none⟩]) (
  .seq (.seq (.reg [⟨some 6, .cp (.t 0), none⟩,
      ⟨some 7, .len (.t 6), none⟩,
      ⟨some 8, .cp (.t 1), none⟩,
      ⟨some 9, .len (.t 8), none⟩,
      ⟨some 10, .bin .neq (.t 7) (.t 9), none⟩]) (
  .cond (.t 10) (
    .seq (.reg [⟨some 4, .cp (.c (.bool false)), none⟩]) (
    .ret)) (
    .skip))) (
  .seq (.seq (.reg [⟨some 11, .cp (.t 0), none⟩,
      ⟨some 12, .len (.t 11), none⟩,
      ⟨some 13, .cp (.c (.int .i64 0)), none⟩]) (
  .block 0 (
    .loop [false, false, false, false, true, true, false, false, false, false, false, false, false, false, true, true, true, true, true, true, true, true, true, true, true, true] [] a35_l0))) (
  .seq (.reg [⟨some 4, .cp (.c (.bool true)), none⟩]) (
  .ret))))
def af35 : AFn := ⟨26, 0, [.t 4], a35⟩
theorem ak35 : chkF Try.prog 35 af35 = true := by kernel_rfl

-- f36 fingerpost/timer.Of  boxes 1 notes []
def a36_l0 : AC := .seq (.reg [⟨some 11, .bin .lss (.t 10) (.t 9), none⟩]) (
  .seq (.cond (.t 11) (
    .skip) (
    .exit 0)) (
  .seq (.block 1 (
    .seq (.reg [⟨some 12, .ia 3 none (.t 8) (.t 10), none⟩,
        ⟨some 13, .ld (some 3) (.t 12), none⟩,
        ⟨some 7, .alloc 0 3 [.int .i64 0, .int .i64 0, .int .i64 0], none⟩,
        ⟨none, .st 3 (.t 7) (.t 13), none⟩]) (
    .seq (.reg [⟨some 14, .fa 1 (.t 7), none⟩,
        ⟨some 15, .ld none (.t 14), none⟩,
        ⟨some 16, .cp (.t 1), none⟩,
        ⟨some 17, .bin .eql (.t 15) (.t 16), none⟩]) (
    .cond (.t 17) (
      .reg [⟨some 18, .tk 5, none⟩,
          ⟨some 19, .ld (some 3) (.t 7), none⟩,
          ⟨some 20, .bs 3 [.t 19], none⟩,
          ⟨some 21, .app 3 24 (.t 18) (.t 20), none⟩,
          ⟨some 5, .tk 21, none⟩]) (
      .skip))))) (
  .reg [⟨some 22, .bin .add (.t 10) (.c (.int .i64 1)), none⟩,
      ⟨some 10, .cp (.t 22), none⟩])))
def a36 : AC := .seq (.reg [⟨some 4, .cp (.c (.sl .own 3 [])), none⟩]) (
  .seq (.reg [⟨some 5, .cp (.c (.sl .own 3 [])), none⟩]) (
  .seq (.seq (.reg [⟨some 8, .tk 0, none⟩,
      ⟨some 9, .len (.t 8), none⟩,
      ⟨some 10, .cp (.c (.int .i64 0)), none⟩]) (
  .block 0 (
    .loop [false, false, false, false, false, false, false, true, false, false, false, true, true, true, true, true, true, true, true, true, true, true, true] [0] a36_l0))) (
  .seq (.reg [⟨some 23, .tk 5, none⟩,
      ⟨some 4, .tk 23, none⟩]) (
  .ret))))
def af36 : AFn := ⟨24, 1, [.t 4], a36⟩
theorem ak36 : chkF Try.prog 36 af36 = true := by kernel_rfl

-- f37 fingerpost/fingerpostref13.Of  boxes 1 notes []
def a37_l0 : AC := .seq (.reg [⟨some 11, .bin .lss (.t 10) (.t 9), none⟩]) (
  .seq (.cond (.t 11) (
    .skip) (
    .exit 0)) (
  .seq (.block 1 (
    .seq (.reg [⟨some 12, .ia 3 none (.t 8) (.t 10), none⟩,
        ⟨some 13, .ld (some 3) (.t 12), none⟩,
        ⟨some 7, .alloc 0 3 [.int .i64 0, .int .i64 0, .int .i64 0], none⟩,
        ⟨none, .st 3 (.t 7) (.t 13), none⟩]) (
    .seq (.reg [⟨some 14, .fa 1 (.t 7), none⟩,
        ⟨some 15, .ld none (.t 14), none⟩,
        ⟨some 16, .cp (.t 1), none⟩,
        ⟨some 17, .bin .eql (.t 15) (.t 16), none⟩]) (
    .cond (.t 17) (
      .reg [⟨some 18, .tk 5, none⟩,
          ⟨some 19, .ld (some 3) (.t 7), none⟩,
          ⟨some 20, .bs 3 [.t 19], none⟩,
          ⟨some 21, .app 3 24 (.t 18) (.t 20), none⟩,
          ⟨some 5, .tk 21, none⟩]) (
      .skip))))) (
  .reg [⟨some 22, .bin .add (.t 10) (.c (.int .i64 1)), none⟩,
      ⟨some 10, .cp (.t 22), none⟩])))
def a37 : AC := .seq (.reg [⟨some 4, .cp (.c (.sl .own 3 [])), none⟩]) (
  .seq (.reg [⟨some 5, .cp (.c (.sl .own 3 [])), none⟩]) (
  .seq (.seq (.reg [⟨some 8, .tk 0, none⟩,
      ⟨some 9, .len (.t 8), none⟩,
      ⟨some 10, .cp (.c (.int .i64 0)), none⟩]) (
  .block 0 (
    .loop [false, false, false, false, false, false, false, true, false, false, false, true, true, true, true, true, true, true, true, true, true, true, true] [0] a37_l0))) (
  .seq (.reg [⟨some 23, .tk 5, none⟩,
      ⟨some 4, .tk 23, none⟩]) (
  .ret))))
def af37 : AFn := ⟨24, 1, [.t 4], a37⟩
theorem ak37 : chkF Try.prog 37 af37 = true := by kernel_rfl

-- f38 fingerpost/timer.Next  boxes 1 notes []
def a38_l0 : AC := .seq (.reg [⟨some 10, .bin .lss (.t 9) (.t 8), none⟩]) (
  .seq (.cond (.t 10) (
    .skip) (
    .exit 0)) (
  .seq (.block 1 (
    .seq (.reg [⟨some 11, .cp (.t 9), none⟩,
        ⟨some 12, .ia 3 none (.t 7) (.t 9), none⟩,
        ⟨some 13, .ld (some 3) (.t 12), none⟩,
        ⟨some 5, .alloc 0 3 [.int .i64 0, .int .i64 0, .int .i64 0], none⟩,
        ⟨some 4, .cp (.t 11), none⟩,
        ⟨none, .st 3 (.t 5) (.t 13), none⟩]) (
    .seq (.reg [⟨some 14, .fa 2 (.t 5), none⟩,
        ⟨some 15, .ld none (.t 14), none⟩,
        ⟨some 16, .mm true [.t 15, .c (.int .i64 1)], none⟩,
        ⟨some 6, .cp (.t 16), none⟩]) (
    .seq (.reg [⟨some 17, .cp (.t 4), none⟩,
        ⟨some 18, .bin .eql (.t 17) (.c (.int .i64 0)), none⟩,
        ⟨some 19, .cp (.t 18), none⟩,
        ⟨some 20, .cp (.t 6), some (19, false)⟩,
        ⟨some 21, .cp (.t 3), some (19, false)⟩,
        ⟨some 22, .bin .lss (.t 20) (.t 21), some (19, false)⟩,
        ⟨some 23, .pick (.t 19) (.c (.bool true)) (.t 22), none⟩]) (
    .cond (.t 23) (
      .reg [⟨some 24, .cp (.t 6), none⟩,
          ⟨some 3, .cp (.t 24), none⟩]) (
      .skip)))))) (
  .reg [⟨some 25, .bin .add (.t 9) (.c (.int .i64 1)), none⟩,
      ⟨some 9, .cp (.t 25), none⟩])))
def a38 : AC := .seq (.reg [⟨some 2, .cp (.c (.int .i64 0)), none⟩]) (
  .seq (.reg [⟨some 3, .cp (.c (.int .i64 0)), none⟩]) (
  .seq (.seq (.reg [⟨some 7, .tk 0, none⟩,
      ⟨some 8, .len (.t 7), none⟩,
      ⟨some 9, .cp (.c (.int .i64 0)), none⟩]) (
  .block 0 (
    .loop [false, false, false, false, true, true, true, false, false, false, true, true, true, true, true, true, true, true, true, true, true, true, true, true, true, true] [0] a38_l0))) (
  .seq (.reg [⟨some 26, .cp (.t 3), none⟩,
      ⟨some 2, .cp (.t 26), none⟩]) (
  .ret))))
def af38 : AFn := ⟨27, 1, [.t 2], a38⟩
theorem ak38 : chkF Try.prog 38 af38 = true := by kernel_rfl

-- f39 fingerpost/fingerpostref13.Next  boxes 1 notes []
def a39_l0 : AC := .seq (.reg [⟨some 10, .bin .lss (.t 9) (.t 8), none⟩]) (
  .seq (.cond (.t 10) (
    .skip) (
    .exit 0)) (
  .seq (.block 1 (
    .seq (.reg [⟨some 11, .ia 3 none (.t 7) (.t 9), none⟩,
        ⟨some 12, .ld (some 3) (.t 11), none⟩,
        ⟨some 5, .alloc 0 3 [.int .i64 0, .int .i64 0, .int .i64 0], none⟩,
        ⟨none, .st 3 (.t 5) (.t 12), none⟩]) (
    .seq (.reg [⟨some 13, .fa 2 (.t 5), none⟩,
        ⟨some 14, .ld none (.t 13), none⟩,
        ⟨some 15, .mm true [.c (.int .i64 1), .t 14], none⟩,
        ⟨some 6, .cp (.t 15), none⟩]) (
    .seq (.reg [⟨some 16, .cp (.t 3), none⟩,
        ⟨some 17, .bin .eql (.t 16) (.c (.int .i64 0)), none⟩,
        ⟨some 18, .cp (.t 17), none⟩,
        ⟨some 19, .cp (.t 6), some (18, false)⟩,
        ⟨some 20, .cp (.t 3), some (18, false)⟩,
        ⟨some 21, .bin .lss (.t 19) (.t 20), some (18, false)⟩,
        ⟨some 22, .pick (.t 18) (.c (.bool true)) (.t 21), none⟩]) (
    .cond (.t 22) (
      .reg [⟨some 23, .cp (.t 6), none⟩,
          ⟨some 3, .cp (.t 23), none⟩]) (
      .skip)))))) (
  .reg [⟨some 24, .bin .add (.t 9) (.c (.int .i64 1)), none⟩,
      ⟨some 9, .cp (.t 24), none⟩])))
def a39 : AC := .seq (.reg [⟨some 2, .cp (.c (.int .i64 0)), none⟩]) (
  .seq (.reg [⟨some 3, .cp (.c (.int .i64 0)), none⟩]) (
  .seq (.seq (.reg [⟨some 7, .tk 0, none⟩,
      ⟨some 8, .len (.t 7), none⟩,
      ⟨some 9, .cp (.c (.int .i64 0)), none⟩]) (
  .block 0 (
    .loop [false, false, false, false, false, true, true, false, false, false, true, true, true, true, true, true, true, true, true, true, true, true, true, true, true] [0] a39_l0))) (
  .seq (.reg [⟨some 25, .cp (.t 3), none⟩,
      ⟨some 2, .cp (.t 25), none⟩]) (
  .ret))))
def af39 : AFn := ⟨26, 1, [.t 2], a39⟩
theorem ak39 : chkF Try.prog 39 af39 = true := by kernel_rfl

-- f94 fingerpost/timer.right  boxes 1 notes []
def a94 : AC := .seq (.reg [⟨some 1, .box 0 3 (.t 0), none⟩,
      ⟨some 2, .cp (.c (.bool false)), none⟩]) (
  .seq (.reg [⟨some 3, .fa 0 (.t 1), none⟩,
      ⟨some 4, .ld none (.t 3), none⟩,
      ⟨some 5, .bin .geq (.t 4) (.c (.int .i64 0)), none⟩,
      ⟨some 6, .cp (.t 5), none⟩,
      ⟨some 7, .fa 0 (.t 1), some (6, true)⟩,
      ⟨some 8, .ld none (.t 7), some (6, true)⟩,
      ⟨some 9, .bin .leq (.t 8) (.c (.int .i64 3)), some (6, true)⟩,
      ⟨some 10, .pick (.t 6) (.t 9) (.c (.bool false)), none⟩,
      ⟨some 11, .cp (.t 10), none⟩,
      ⟨some 12, .fa 1 (.t 1), some (11, true)⟩,
      ⟨some 13, .ld none (.t 12), some (11, true)⟩,
      ⟨some 14, .call 126 [.t 13], some (11, true)⟩,
      ⟨some 15, .pick (.t 11) (.t 14) (.c (.bool false)), none⟩,
      ⟨some 16, .cp (.t 15), none⟩,
      ⟨some 17, .fa 2 (.t 1), some (16, true)⟩,
      ⟨some 18, .ld none (.t 17), some (16, true)⟩,
      ⟨some 19, .bin .geq (.t 18) (.c (.int .i64 1)), some (16, true)⟩,
      ⟨some 20, .pick (.t 16) (.t 19) (.c (.bool false)), none⟩,
      ⟨some 21, .cp (.t 20), none⟩,
      ⟨some 22, .fa 2 (.t 1), some (21, true)⟩,
      ⟨some 23, .ld none (.t 22), some (21, true)⟩,
      ⟨some 24, .bin .leq (.t 23) (.c (.int .i64 1073741824)), some (21, true)⟩,
      ⟨some 25, .pick (.t 21) (.t 24) (.c (.bool false)), none⟩,
      ⟨some 2, .cp (.t 25), none⟩]) (
  .ret))
def af94 : AFn := ⟨26, 1, [.t 2], a94⟩
theorem ak94 : chkF Try.prog 94 af94 = true := by kernel_rfl

-- f95 fingerpost/timer.ahead  boxes 2 notes []
def a95 : AC := .seq (.reg [⟨some 2, .box 0 3 (.t 0), none⟩,
      ⟨some 3, .box 1 3 (.t 1), none⟩,
      ⟨some 4, .cp (.c (.bool false)), none⟩]) (
  .seq (.seq (.reg [⟨some 5, .fa 0 (.t 2), none⟩,
      ⟨some 6, .ld none (.t 5), none⟩,
      ⟨some 7, .fa 0 (.t 3), none⟩,
      ⟨some 8, .ld none (.t 7), none⟩,
      ⟨some 9, .bin .neq (.t 6) (.t 8), none⟩]) (
  .cond (.t 9) (
    .seq (.reg [⟨some 10, .fa 0 (.t 2), none⟩,
        ⟨some 11, .ld none (.t 10), none⟩,
        ⟨some 12, .fa 0 (.t 3), none⟩,
        ⟨some 13, .ld none (.t 12), none⟩,
        ⟨some 14, .bin .lss (.t 11) (.t 13), none⟩,
        ⟨some 4, .cp (.t 14), none⟩]) (
    .ret)) (
    .skip))) (
  .seq (.reg [⟨some 15, .fa 1 (.t 2), none⟩,
      ⟨some 16, .ld none (.t 15), none⟩,
      ⟨some 17, .fa 1 (.t 3), none⟩,
      ⟨some 18, .ld none (.t 17), none⟩,
      ⟨some 19, .bin .lss (.t 16) (.t 18), none⟩,
      ⟨some 4, .cp (.t 19), none⟩]) (
  .ret)))
def af95 : AFn := ⟨20, 2, [.t 4], a95⟩
theorem ak95 : chkF Try.prog 95 af95 = true := by kernel_rfl

-- f96 fingerpost/timer.Stop  boxes 1 notes []
def a96_l0 : AC := .seq (.reg [⟨some 13, .bin .lss (.t 12) (.t 11), none⟩]) (
  .seq (.cond (.t 13) (
    .skip) (
    .exit 0)) (
  .seq (.block 1 (
    .seq (.reg [⟨some 14, .ia 3 none (.t 10) (.t 12), none⟩,
        ⟨some 15, .ld (some 3) (.t 14), none⟩,
        ⟨some 9, .alloc 0 3 [.int .i64 0, .int .i64 0, .int .i64 0], none⟩,
        ⟨none, .st 3 (.t 9) (.t 15), none⟩]) (
    .seq (.seq (.reg [⟨some 16, .fa 0 (.t 9), none⟩,
        ⟨some 17, .ld none (.t 16), none⟩,
        ⟨some 18, .cp (.t 1), none⟩,
        ⟨some 19, .bin .eql (.t 17) (.t 18), none⟩,
        ⟨some 20, .cp (.t 19), none⟩,
        ⟨some 21, .fa 1 (.t 9), some (20, true)⟩,
        ⟨some 22, .ld none (.t 21), some (20, true)⟩,
        ⟨some 23, .cp (.t 2), some (20, true)⟩,
        ⟨some 24, .bin .eql (.t 22) (.t 23), some (20, true)⟩,
        ⟨some 25, .pick (.t 20) (.t 24) (.c (.bool false)), none⟩]) (
    .cond (.t 25) (
      .exit 1) (
      .skip))) (
    .reg [⟨some 26, .tk 7, none⟩,
        ⟨some 27, .ld (some 3) (.t 9), none⟩,
        ⟨some 28, .bs 3 [.t 27], none⟩,
        ⟨some 29, .app 3 24 (.t 26) (.t 28), none⟩,
        ⟨some 7, .tk 29, none⟩])))) (
  .reg [⟨some 30, .bin .add (.t 12) (.c (.int .i64 1)), none⟩,
      ⟨some 12, .cp (.t 30), none⟩])))
def a96 : AC := .seq (.reg [⟨some 6, .cp (.c (.sl .own 3 [])), none⟩]) (
  .scope (.seq (.reg [⟨some 7, .cp (.c (.sl .own 3 [])), none⟩]) (
  .seq (.skip) (
  .seq (.seq (.reg [⟨some 10, .tk 0, none⟩,
      ⟨some 11, .len (.t 10), none⟩,
      ⟨some 12, .cp (.c (.int .i64 0)), none⟩]) (
  .block 0 (
    .loop [false, false, false, false, false, false, false, false, false, true, false, false, false, true, true, true, true, true, true, true, true, true, true, true, true, true, true, true, true, true, true] [0] a96_l0))) (
  .seq (.reg [⟨some 31, .tk 7, none⟩,
      ⟨some 6, .tk 31, none⟩]) (
  .ret))))))
def af96 : AFn := ⟨32, 1, [.t 6], a96⟩
theorem ak96 : chkF Try.prog 96 af96 = true := by kernel_rfl

-- f97 fingerpost/timer.Same  boxes 0 notes []
def a97 : AC := .seq (.reg [⟨some 4, .cp (.c (.bool false)), none⟩]) (
  .seq (.reg [⟨some 5, .tk 0, none⟩,
      ⟨some 6, .tk 1, none⟩,
      ⟨some 7, .call 127 [.t 5, .t 6], none⟩,
      ⟨some 4, .cp (.t 7), none⟩]) (
  .ret))
def af97 : AFn := ⟨8, 0, [.t 4], a97⟩
theorem ak97 : chkF Try.prog 97 af97 = true := by kernel_rfl

-- f98 fingerpost/fingerpostref13.Tick  boxes 1 notes []
def a98_l0 : AC := .seq (.reg [⟨some 11, .bin .lss (.t 10) (.t 9), none⟩]) (
  .seq (.cond (.t 11) (
    .skip) (
    .exit 0)) (
  .seq (.block 1 (
    .seq (.reg [⟨some 12, .ia 3 none (.t 8) (.t 10), none⟩,
        ⟨some 13, .ld (some 3) (.t 12), none⟩,
        ⟨some 7, .alloc 0 3 [.int .i64 0, .int .i64 0, .int .i64 0], none⟩,
        ⟨none, .st 3 (.t 7) (.t 13), none⟩]) (
    .seq (.reg [⟨some 14, .fa 2 (.t 7), none⟩,
        ⟨some 15, .ld none (.t 14), none⟩,
        ⟨some 16, .bin .gtr (.t 15) (.c (.int .i64 1)), none⟩]) (
    .cond (.t 16) (
      .reg [⟨some 17, .tk 4, none⟩,
          ⟨some 18, .fa 0 (.t 7), none⟩,
          ⟨some 19, .ld none (.t 18), none⟩,
          ⟨some 20, .fa 1 (.t 7), none⟩,
          ⟨some 21, .ld none (.t 20), none⟩,
          ⟨some 22, .fa 2 (.t 7), none⟩,
          ⟨some 23, .ld none (.t 22), none⟩,
          ⟨some 24, .bin .sub (.t 23) (.c (.int .i64 1)), none⟩,
          ⟨some 25, .bld [.int .i64 0, .int .i64 0, .int .i64 0] [(0, 1, .t 19), (1, 1, .t 21), (2, 1, .t 24)], none⟩,
          ⟨some 26, .bs 3 [.t 25], none⟩,
          ⟨some 27, .app 3 24 (.t 17) (.t 26), none⟩,
          ⟨some 4, .tk 27, none⟩]) (
      .reg [⟨some 28, .tk 5, none⟩,
          ⟨some 29, .fa 0 (.t 7), none⟩,
          ⟨some 30, .ld none (.t 29), none⟩,
          ⟨some 31, .fa 1 (.t 7), none⟩,
          ⟨some 32, .ld none (.t 31), none⟩,
          ⟨some 33, .bld [.int .i64 0, .int .i64 0, .int .i64 0] [(0, 1, .t 30), (1, 1, .t 32)], none⟩,
          ⟨some 34, .bs 3 [.t 33], none⟩,
          ⟨some 35, .app 3 24 (.t 28) (.t 34), none⟩,
          ⟨some 5, .tk 35, none⟩]))))) (
  .reg [⟨some 36, .bin .add (.t 10) (.c (.int .i64 1)), none⟩,
      ⟨some 10, .cp (.t 36), none⟩])))
def a98 : AC := .seq (.reg [⟨some 2, .cp (.c (.sl .own 3 [])), none⟩,
      ⟨some 3, .cp (.c (.sl .own 3 [])), none⟩]) (
  .seq (.reg [⟨some 4, .cp (.c (.sl .own 3 [])), none⟩,
      ⟨some 5, .cp (.c (.sl .own 3 [])), none⟩]) (
  .seq (.seq (.reg [⟨some 8, .tk 0, none⟩,
      ⟨some 9, .len (.t 8), none⟩,
      ⟨some 10, .cp (.c (.int .i64 0)), none⟩]) (
  .block 0 (
    .loop [false, false, false, false, false, false, false, true, false, false, false, true, true, true, true, true, true, true, true, true, true, true, true, true, true, true, true, true, true, true, true, true, true, true, true, true, true] [0] a98_l0))) (
  .seq (.reg [⟨some 37, .tk 4, none⟩,
      ⟨some 38, .tk 5, none⟩,
      ⟨some 2, .tk 37, none⟩,
      ⟨some 3, .tk 38, none⟩]) (
  .ret))))
def af98 : AFn := ⟨39, 1, [.t 2, .t 3], a98⟩
theorem ak98 : chkF Try.prog 98 af98 = true := by kernel_rfl

-- f126 fingerpost/nodes.Right  boxes 0 notes []
def a126 : AC := .seq (.reg [⟨some 2, .cp (.c (.bool false)), none⟩]) (
  .seq (.reg [⟨some 3, .cp (.t 0), none⟩,
      ⟨some 4, .bin .geq (.t 3) (.c (.int .i64 0)), none⟩,
      ⟨some 5, .cp (.t 4), none⟩,
      ⟨some 6, .cp (.t 0), some (5, true)⟩,
      ⟨some 7, .bin .lss (.t 6) (.c (.int .i64 16)), some (5, true)⟩,
      ⟨some 8, .pick (.t 5) (.t 7) (.c (.bool false)), none⟩,
      ⟨some 2, .cp (.t 8), none⟩]) (
  .ret))
def af126 : AFn := ⟨9, 0, [.t 2], a126⟩
theorem ak126 : chkF Try.prog 126 af126 = true := by kernel_rfl

-- f127 slices.Equal[[]fingerpost/api.Alarm,fingerpost/api.Alarm]  boxes 0 notes []
def a127_l0 : AC := .seq (.reg [⟨some 14, .bin .lss (.t 13) (.t 12), none⟩]) (
  .seq (.cond (.t 14) (
    .skip) (
    .exit 0)) (
  .seq (.block 1 (
    .seq (.reg [⟨some 15, .cp (.t 13), none⟩,
        ⟨some 5, .cp (.t 15), none⟩]) (
    .seq (.drw [⟨some 16, .cp (.t 0), none⟩,
        ⟨some 17, .cp (.t 5), none⟩,
        ⟨some 18, .ia 3 none (.t 16) (.t 17), none⟩,
        ⟨some 19, .ld (some 3) (.t 18), none⟩,
        ⟨some 20, .cp (.t 1), none⟩,
        ⟨some 21, .cp (.t 5), none⟩,
        ⟨some 22, .ia 3 none (.t 20) (.t 21), none⟩,
        ⟨some 23, .ld (some 3) (.t 22), none⟩,
        ⟨some 24, .eqA true [.i, .i, .i] (.t 19) (.t 23), none⟩] []) (
    .cond (.t 24) (
      .seq (.reg [⟨some 4, .cp (.c (.bool false)), none⟩]) (
      .ret)) (
      .skip))))) (
  .reg [⟨some 25, .bin .add (.t 13) (.c (.int .i64 1)), none⟩,
      ⟨some 13, .cp (.t 25), none⟩])))
def a127 : AC := .seq (.reg [⟨some 4, .cp (.c (.bool false)), none⟩]) (
  .seq (.seq (.reg [⟨some 6, .cp (.t 0), none⟩,
      ⟨some 7, .len (.t 6), none⟩,
      ⟨some 8, .cp (.t 1), none⟩,
      ⟨some 9, .len (.t 8), none⟩,
      ⟨some 10, .bin .neq (.t 7) (.t 9), none⟩]) (
  .cond (.t 10) (
    .seq (.reg [⟨some 4, .cp (.c (.bool false)), none⟩]) (
    .ret)) (
    .skip))) (
  .seq (.seq (.reg [⟨some 11, .cp (.t 0), none⟩,
      ⟨some 12, .len (.t 11), none⟩,
      ⟨some 13, .cp (.c (.int .i64 0)), none⟩]) (
  .block 0 (
    .loop [false, false, false, false, true, true, false, false, false, false, false, false, false, false, true, true, true, true, true, true, true, true, true, true, true, true] [] a127_l0))) (
  .seq (.reg [⟨some 4, .cp (.c (.bool true)), none⟩]) (
  .ret))))
def af127 : AFn := ⟨26, 0, [.t 4], a127⟩
theorem ak127 : chkF Try.prog 127 af127 = true := by kernel_rfl

end Go.Proofs.Ytmchbkmenokkdaa

/- The functions as data, and that they are the program's. -/
import Derived.Test.YtmchbkmenokkdaaAwN
set_option maxRecDepth 100000
namespace Go.Proofs.Ytmchbkmenokkdaa
open Go.RowKit
-- f7 fingerpost/fingerpostlaw17.ResendEnds  boxes 2 notes []
def a7_l0 : AC := .seq (.seq (.reg [⟨some 43, .cp (.t 7), none⟩,
      ⟨some 44, .fa 2 (.t 3), none⟩,
      ⟨some 45, .ld none (.t 44), none⟩,
      ⟨some 46, .fa 3 (.t 3), none⟩,
      ⟨some 47, .ld none (.t 46), none⟩,
      ⟨some 48, .bin .mul (.t 45) (.t 47), none⟩,
      ⟨some 49, .bin .leq (.t 43) (.t 48), none⟩]) (
  .cond (.t 49) (
    .skip) (
    .exit 0))) (
  .seq (.block 1 (
    .seq (.reg [⟨some 53, .tk 4, none⟩,
        ⟨some 54, .ld (some 4) (.t 3), none⟩,
        ⟨some 55, .call 42 [.t 53, .t 54], none⟩,
        ⟨some 52, .tk 55, none⟩,
        ⟨some 56, .extt 52 0, none⟩,
        ⟨some 57, .extt 52 1, none⟩,
        ⟨some 58, .ext (.t 52) 2, none⟩,
        ⟨some 8, .tk 56, none⟩,
        ⟨some 9, .tk 57, none⟩,
        ⟨some 10, .cp (.t 58), none⟩]) (
    .seq (.reg [⟨some 59, .cp (.t 6), none⟩,
        ⟨some 60, .cp (.t 9), none⟩,
        ⟨some 61, .len (.t 60), none⟩,
        ⟨some 62, .bin .add (.t 59) (.t 61), none⟩,
        ⟨some 6, .cp (.t 62), none⟩]) (
    .seq (.seq (.reg [⟨some 63, .cp (.t 10), none⟩,
        ⟨some 64, .cp (.t 7), none⟩,
        ⟨some 65, .fa 2 (.t 3), none⟩,
        ⟨some 66, .ld none (.t 65), none⟩,
        ⟨some 67, .fa 3 (.t 3), none⟩,
        ⟨some 68, .ld none (.t 67), none⟩,
        ⟨some 69, .bin .mul (.t 66) (.t 68), none⟩,
        ⟨some 70, .bin .eql (.t 64) (.t 69), none⟩,
        ⟨some 71, .eqB true (.t 63) (.t 70), none⟩,
        ⟨some 72, .cp (.t 71), none⟩,
        ⟨some 73, .tk 9, some (72, false)⟩,
        ⟨some 74, .len (.t 73), some (72, false)⟩,
        ⟨some 75, .bin .gtr (.t 74) (.c (.int .i64 0)), some (72, false)⟩,
        ⟨some 76, .cp (.t 75), some (72, false)⟩,
        ⟨some 77, .cp (.t 7), some (76, true)⟩,
        ⟨some 78, .fa 2 (.t 3), some (76, true)⟩,
        ⟨some 79, .ld none (.t 78), some (76, true)⟩,
        ⟨some 80, .bin .rem (.t 77) (.t 79), some (76, true)⟩,
        ⟨some 81, .bin .neq (.t 80) (.c (.int .i64 0)), some (76, true)⟩,
        ⟨some 82, .pick (.t 76) (.t 81) (.c (.bool false)), some (72, false)⟩,
        ⟨some 83, .pick (.t 72) (.c (.bool true)) (.t 82), none⟩,
        ⟨some 84, .cp (.t 83), none⟩,
        ⟨some 85, .cp (.t 8), some (84, false)⟩,
        ⟨some 86, .len (.t 85), some (84, false)⟩,
        ⟨some 87, .bin .neq (.t 86) (.c (.int .i64 1)), some (84, false)⟩,
        ⟨some 88, .pick (.t 84) (.c (.bool true)) (.t 87), none⟩]) (
    .cond (.t 88) (
      .seq (.reg [⟨some 2, .cp (.c (.bool false)), none⟩]) (
      .ret)) (
      .skip))) (
    .reg [⟨some 89, .tk 8, none⟩,
        ⟨some 4, .tk 89, none⟩]))))) (
  .reg [⟨some 50, .cp (.t 7), none⟩,
      ⟨some 51, .bin .add (.t 50) (.c (.int .i64 1)), none⟩,
      ⟨some 7, .cp (.t 51), none⟩]))
def a7 : AC := .seq (.reg [⟨some 1, .box 0 3 (.t 0), none⟩,
      ⟨some 2, .cp (.c (.bool false)), none⟩]) (
  .seq (.reg [⟨some 16, .call 40 [], none⟩,
      ⟨some 3, .alloc 1 4 [.int .i64 0, .int .i64 0, .int .i64 0, .int .i64 0], none⟩,
      ⟨none, .st 4 (.t 3) (.t 16), none⟩]) (
  .seq (.drw [⟨some 17, .ia 1 (some 3) (.t 1) (.c (.int .i64 0)), none⟩,
      ⟨some 18, .ld none (.t 17), none⟩,
      ⟨some 19, .cv (.int .u64) (.t 18), none⟩,
      ⟨some 20, .bin .rem (.t 19) (.c (.int .u64 6)), none⟩,
      ⟨some 21, .cv (.int .i64) (.t 20), none⟩,
      ⟨some 22, .bin .add (.c (.int .i64 1)) (.t 21), none⟩,
      ⟨some 23, .ia 1 (some 3) (.t 1) (.c (.int .i64 1)), none⟩,
      ⟨some 24, .ld none (.t 23), none⟩,
      ⟨some 25, .cv (.int .u64) (.t 24), none⟩,
      ⟨some 26, .bin .rem (.t 25) (.c (.int .u64 6)), none⟩,
      ⟨some 27, .cv (.int .i64) (.t 26), none⟩,
      ⟨some 28, .bin .add (.c (.int .i64 1)) (.t 27), none⟩,
      ⟨some 29, .fa 2 (.t 3), none⟩,
      ⟨none, .st 1 (.t 29) (.t 22), none⟩,
      ⟨some 30, .fa 3 (.t 3), none⟩,
      ⟨none, .st 1 (.t 30) (.t 28), none⟩] [(23, 29), (1, 29), (1, 3), (23, 3)]) (
  .seq (.reg [⟨some 32, .ia 1 (some 3) (.t 1) (.c (.int .i64 2)), none⟩,
      ⟨some 33, .ld none (.t 32), none⟩,
      ⟨some 34, .cv (.int .u64) (.t 33), none⟩,
      ⟨some 35, .bin .rem (.t 34) (.c (.int .u64 65536)), none⟩,
      ⟨some 36, .cv (.int .i64) (.t 35), none⟩,
      ⟨some 37, .ld (some 4) (.t 3), none⟩,
      ⟨some 38, .call 41 [.c (.sl .own 4 []), .t 36, .c (.str [120]), .t 37], none⟩,
      ⟨some 31, .tk 38, none⟩,
      ⟨some 39, .extt 31 0, none⟩,
      ⟨some 40, .ext (.t 31) 1, none⟩,
      ⟨some 4, .tk 39, none⟩,
      ⟨some 5, .cp (.t 40), none⟩]) (
  .seq (.seq (.reg [⟨some 41, .cp (.t 5), none⟩,
      ⟨some 42, .bin .neq (.t 41) (.c (.int .i64 0)), none⟩]) (
  .cond (.t 42) (
    .seq (.reg [⟨some 2, .cp (.c (.bool false)), none⟩]) (
    .ret)) (
    .skip))) (
  .seq (.reg [⟨some 6, .cp (.c (.int .i64 1)), none⟩]) (
  .seq (.seq (.reg [⟨some 7, .cp (.c (.int .i64 1)), none⟩]) (
  .block 0 (
    .loop [false, false, true, false, false, false, false, false, true, true, true, false, false, false, false, false, false, false, false, false, false, false, false, false, false, false, false, false, false, false, false, false, false, false, false, false, false, false, false, false, false, false, false, true, true, true, true, true, true, true, true, true, true, true, true, true, true, true, true, true, true, true, true, true, true, true, true, true, true, true, true, true, true, true, true, true, true, true, true, true, true, true, true, true, true, true, true, true, true, true] [] a7_l0))) (
  .seq (.reg [⟨some 91, .cp (.t 4), none⟩,
      ⟨some 92, .tk 4, none⟩,
      ⟨some 93, .iaE 4 (.t 92) (.c (.int .i64 0)), none⟩,
      ⟨some 94, .fa 0 (.t 93), none⟩,
      ⟨some 95, .ld none (.t 94), none⟩,
      ⟨some 96, .bin .add (.t 95) (.c (.int .i64 1)), none⟩,
      ⟨some 97, .bld [.int .i64 0, .int .u32 0, .int .u32 0, .int .u32 0, .int .u32 0, .int .i64 0, .int .i64 0] [(5, 1, .t 96)], none⟩,
      ⟨some 98, .call 43 [.t 91, .t 97], none⟩,
      ⟨some 90, .tk 98, none⟩,
      ⟨some 99, .extt 90 0, none⟩,
      ⟨some 100, .ext (.t 90) 1, none⟩,
      ⟨some 11, .tk 99, none⟩,
      ⟨some 12, .cp (.t 100), none⟩]) (
  .seq (.reg [⟨some 102, .cp (.t 11), none⟩,
      ⟨some 103, .ld (some 4) (.t 3), none⟩,
      ⟨some 104, .call 42 [.t 102, .t 103], none⟩,
      ⟨some 101, .tk 104, none⟩,
      ⟨some 105, .extt 101 0, none⟩,
      ⟨some 106, .extt 101 1, none⟩,
      ⟨some 107, .ext (.t 101) 2, none⟩,
      ⟨some 13, .tk 105, none⟩,
      ⟨some 14, .tk 106, none⟩,
      ⟨some 15, .cp (.t 107), none⟩]) (
  .seq (.reg [⟨some 108, .cp (.t 6), none⟩,
      ⟨some 109, .fa 3 (.t 3), none⟩,
      ⟨some 110, .ld none (.t 109), none⟩,
      ⟨some 111, .bin .eql (.t 108) (.t 110), none⟩,
      ⟨some 112, .cp (.t 111), none⟩,
      ⟨some 113, .cp (.t 12), some (112, true)⟩,
      ⟨some 114, .bin .eql (.t 113) (.c (.int .i64 1)), some (112, true)⟩,
      ⟨some 115, .pick (.t 112) (.t 114) (.c (.bool false)), none⟩,
      ⟨some 116, .cp (.t 115), none⟩,
      ⟨some 117, .tk 11, some (116, true)⟩,
      ⟨some 118, .len (.t 117), some (116, true)⟩,
      ⟨some 119, .bin .eql (.t 118) (.c (.int .i64 0)), some (116, true)⟩,
      ⟨some 120, .pick (.t 116) (.t 119) (.c (.bool false)), none⟩,
      ⟨some 121, .cp (.t 120), none⟩,
      ⟨some 122, .tk 14, some (121, true)⟩,
      ⟨some 123, .len (.t 122), some (121, true)⟩,
      ⟨some 124, .bin .eql (.t 123) (.c (.int .i64 0)), some (121, true)⟩,
      ⟨some 125, .pick (.t 121) (.t 124) (.c (.bool false)), none⟩,
      ⟨some 126, .cp (.t 125), none⟩,
      ⟨some 127, .cp (.t 15), some (126, true)⟩,
      ⟨some 128, .un .not (.t 127), some (126, true)⟩,
      ⟨some 129, .pick (.t 126) (.t 128) (.c (.bool false)), none⟩,
      ⟨some 130, .cp (.t 129), none⟩,
      ⟨some 131, .call 44 [], some (130, true)⟩,
      ⟨some 132, .pick (.t 130) (.t 131) (.c (.bool false)), none⟩,
      ⟨some 2, .cp (.t 132), none⟩]) (
  .ret))))))))))
def af7 : AFn := ⟨133, 2, [.t 2], a7⟩
theorem ak7 : chkF Try.prog 7 af7 = true := by kernel_rfl

-- f40 fingerpost/fingerpostlaw17.rules  boxes 1 notes []
def a40 : AC := .seq (.reg [⟨some 0, .alloc 0 4 [.int .i64 0, .int .i64 0, .int .i64 0, .int .i64 0], none⟩]) (
  .seq (.reg [⟨some 1, .bld [.int .i64 0, .int .i64 0, .int .i64 0, .int .i64 0] [(0, 1, .c (.int .i64 2)), (1, 1, .c (.int .i64 8)), (2, 1, .c (.int .i64 2)), (3, 1, .c (.int .i64 3))], none⟩,
      ⟨none, .st 4 (.t 0) (.t 1), none⟩]) (
  .ret))
def af40 : AFn := ⟨2, 1, [.c 0 (some 4)], a40⟩
theorem ak40 : chkF Try.prog 40 af40 = true := by kernel_rfl

-- f41 fingerpost/resend.Add  boxes 2 notes []
def a41_l0 : AC := .seq (.reg [⟨some 29, .bin .lss (.t 28) (.t 27), none⟩]) (
  .seq (.cond (.t 29) (
    .skip) (
    .exit 0)) (
  .seq (.block 1 (
    .seq (.reg [⟨some 30, .iaE 4 (.t 26) (.t 28), none⟩,
        ⟨some 31, .ld (some 4) (.t 30), none⟩,
        ⟨some 11, .alloc 1 4 [.int .i64 0, .str [], .int .i64 0, .int .i64 0], none⟩,
        ⟨none, .st 4 (.t 11) (.t 31), none⟩]) (
    .seq (.reg [⟨some 32, .fa 0 (.t 11), none⟩,
        ⟨some 33, .ld none (.t 32), none⟩,
        ⟨some 34, .cp (.t 1), none⟩,
        ⟨some 35, .bin .geq (.t 33) (.t 34), none⟩]) (
    .cond (.t 35) (
      .seq (.reg [⟨some 36, .tk 0, none⟩,
          ⟨some 8, .tk 36, none⟩,
          ⟨some 9, .cp (.c (.int .i64 10)), none⟩]) (
      .ret)) (
      .skip))))) (
  .reg [⟨some 37, .bin .add (.t 28) (.c (.int .i64 1)), none⟩,
      ⟨some 28, .cp (.t 37), none⟩])))
def a41 : AC := .seq (.reg [⟨some 7, .box 0 4 (.t 3), none⟩,
      ⟨some 8, .cp (.c (.sl .own 4 [])), none⟩,
      ⟨some 9, .cp (.c (.int .i64 0)), none⟩]) (
  .seq (.seq (.reg [⟨some 13, .cp (.t 1), none⟩,
      ⟨some 14, .call 99 [.t 13], none⟩,
      ⟨some 15, .un .not (.t 14), none⟩,
      ⟨some 16, .cp (.t 15), none⟩,
      ⟨some 17, .fa 2 (.t 7), some (16, false)⟩,
      ⟨some 18, .ld none (.t 17), some (16, false)⟩,
      ⟨some 19, .bin .lss (.t 18) (.c (.int .i64 1)), some (16, false)⟩,
      ⟨some 20, .pick (.t 16) (.c (.bool true)) (.t 19), none⟩]) (
  .cond (.t 20) (
    .seq (.reg [⟨some 21, .tk 0, none⟩,
        ⟨some 8, .tk 21, none⟩,
        ⟨some 9, .cp (.c (.int .i64 1)), none⟩]) (
    .ret)) (
    .skip))) (
  .seq (.seq (.reg [⟨some 22, .cp (.t 0), none⟩,
      ⟨some 23, .len (.t 22), none⟩,
      ⟨some 24, .bin .geq (.t 23) (.c (.int .i64 8)), none⟩]) (
  .cond (.t 24) (
    .seq (.reg [⟨some 25, .tk 0, none⟩,
        ⟨some 8, .tk 25, none⟩,
        ⟨some 9, .cp (.c (.int .i64 8)), none⟩]) (
    .ret)) (
    .skip))) (
  .seq (.seq (.reg [⟨some 26, .cp (.t 0), none⟩,
      ⟨some 27, .len (.t 26), none⟩,
      ⟨some 28, .cp (.c (.int .i64 0)), none⟩]) (
  .block 0 (
    .loop [false, false, false, false, false, false, false, false, true, true, false, true, false, false, false, false, false, false, false, false, false, false, false, false, false, false, false, false, false, true, true, true, true, true, true, true, true, true] [1] a41_l0))) (
  .seq (.reg [⟨some 38, .tk 0, none⟩,
      ⟨some 39, .app 4 40 (.c (.sl .own 4 [])) (.t 38), none⟩,
      ⟨some 12, .tk 39, none⟩]) (
  .seq (.reg [⟨some 40, .tk 12, none⟩,
      ⟨some 41, .cp (.t 1), none⟩,
      ⟨some 42, .cp (.t 2), none⟩,
      ⟨some 43, .fa 2 (.t 7), none⟩,
      ⟨some 44, .ld none (.t 43), none⟩,
      ⟨some 45, .bld [.int .i64 0, .str [], .int .i64 0, .int .i64 0] [(0, 1, .t 41), (1, 1, .t 42), (2, 1, .c (.int .i64 1)), (3, 1, .t 44)], none⟩,
      ⟨some 46, .bs 4 [.t 45], none⟩,
      ⟨some 47, .app 4 40 (.t 40) (.t 46), none⟩,
      ⟨some 8, .tk 47, none⟩,
      ⟨some 9, .cp (.c (.int .i64 0)), none⟩]) (
  .ret))))))
def af41 : AFn := ⟨48, 2, [.t 8, .t 9], a41⟩
theorem ak41 : chkF Try.prog 41 af41 = true := by kernel_rfl

-- f42 fingerpost/resend.Tick  boxes 2 notes []
def a42_l0 : AC := .seq (.reg [⟨some 16, .bin .lss (.t 15) (.t 14), none⟩]) (
  .seq (.cond (.t 16) (
    .skip) (
    .exit 0)) (
  .seq (.block 1 (
    .seq (.reg [⟨some 17, .cp (.t 15), none⟩,
        ⟨some 10, .cp (.t 17), none⟩]) (
    .block 2 (
      .seq (.reg [⟨some 41, .cp (.t 7), none⟩,
          ⟨some 42, .cp (.t 10), none⟩,
          ⟨some 43, .ia 4 none (.t 41) (.t 42), none⟩,
          ⟨some 44, .fa 3 (.t 43), none⟩,
          ⟨some 45, .ldr none (.t 44), none⟩,
          ⟨some 46, .bin .gtr (.t 45) (.c (.int .i64 1)), none⟩,
          ⟨some 40, .cp (.t 46), none⟩]) (
      .cond (.t 40) (
        .reg [⟨some 47, .cp (.t 7), none⟩,
            ⟨some 48, .cp (.t 10), none⟩,
            ⟨some 49, .ia 4 none (.t 47) (.t 48), none⟩,
            ⟨some 50, .fa 3 (.t 49), none⟩,
            ⟨some 51, .ldr none (.t 50), none⟩,
            ⟨some 52, .bin .sub (.t 51) (.c (.int .i64 1)), none⟩,
            ⟨some 53, .ia 4 none (.t 47) (.t 48), none⟩,
            ⟨some 54, .fa 3 (.t 53), none⟩,
            ⟨none, .sto 1 (.t 54) (.t 52), none⟩]) (
        .seq (.drw [⟨some 56, .cp (.t 7), none⟩,
            ⟨some 57, .cp (.t 10), none⟩,
            ⟨some 58, .ia 4 none (.t 56) (.t 57), none⟩,
            ⟨some 59, .fa 2 (.t 58), none⟩,
            ⟨some 60, .ldr none (.t 59), none⟩,
            ⟨some 61, .fa 3 (.t 3), none⟩,
            ⟨some 62, .ld none (.t 61), none⟩,
            ⟨some 63, .bin .geq (.t 60) (.t 62), none⟩,
            ⟨some 55, .cp (.t 63), none⟩] []) (
        .cond (.t 55) (
          .reg [⟨some 9, .cp (.c (.bool true)), none⟩]) (
          .seq (.reg [⟨some 18, .cp (.t 7), none⟩,
              ⟨some 19, .cp (.t 10), none⟩,
              ⟨some 20, .ia 4 none (.t 18) (.t 19), none⟩,
              ⟨some 21, .fa 2 (.t 20), none⟩,
              ⟨some 22, .ldr none (.t 21), none⟩,
              ⟨some 23, .bin .add (.t 22) (.c (.int .i64 1)), none⟩,
              ⟨some 24, .ia 4 none (.t 18) (.t 19), none⟩,
              ⟨some 25, .fa 2 (.t 24), none⟩,
              ⟨none, .sto 1 (.t 25) (.t 23), none⟩]) (
          .seq (.reg [⟨some 26, .cp (.t 7), none⟩,
              ⟨some 27, .cp (.t 10), none⟩,
              ⟨some 28, .fa 2 (.t 3), none⟩,
              ⟨some 29, .ld none (.t 28), none⟩,
              ⟨some 30, .ia 4 none (.t 26) (.t 27), none⟩,
              ⟨some 31, .fa 3 (.t 30), none⟩,
              ⟨none, .sto 1 (.t 31) (.t 29), none⟩]) (
          .reg [⟨some 32, .tk 8, none⟩,
              ⟨some 33, .cp (.t 7), none⟩,
              ⟨some 34, .cp (.t 10), none⟩,
              ⟨some 35, .ia 4 none (.t 33) (.t 34), none⟩,
              ⟨some 36, .fa 1 (.t 35), none⟩,
              ⟨some 37, .ldr none (.t 36), none⟩,
              ⟨some 38, .bs 1 [.t 37], none⟩,
              ⟨some 39, .app 1 16 (.t 32) (.t 38), none⟩,
              ⟨some 8, .tk 39, none⟩])))))))))) (
  .reg [⟨some 64, .bin .add (.t 15) (.c (.int .i64 1)), none⟩,
      ⟨some 15, .cp (.t 64), none⟩])))
def a42 : AC := .seq (.reg [⟨some 3, .box 0 4 (.t 1), none⟩,
      ⟨some 4, .cp (.c (.sl .own 4 [])), none⟩,
      ⟨some 5, .cp (.c (.sl .own 1 [])), none⟩,
      ⟨some 6, .cp (.c (.bool false)), none⟩]) (
  .seq (.reg [⟨some 11, .tk 0, none⟩,
      ⟨some 12, .appB 1 4 40 none (.t 11), none⟩,
      ⟨some 7, .cp (.t 12), none⟩]) (
  .seq (.reg [⟨some 8, .cp (.c (.sl .own 1 [])), none⟩]) (
  .seq (.reg [⟨some 9, .cp (.c (.bool false)), none⟩]) (
  .seq (.seq (.reg [⟨some 13, .cp (.t 7), none⟩,
      ⟨some 14, .len (.t 13), none⟩,
      ⟨some 15, .cp (.c (.int .i64 0)), none⟩]) (
  .block 0 (
    .loop [false, false, false, false, false, false, false, false, false, false, true, false, false, false, false, false, true, true, true, true, true, true, true, true, true, true, true, true, true, true, true, true, true, true, true, true, true, true, true, true, true, true, true, true, true, true, true, true, true, true, true, true, true, true, true, true, true, true, true, true, true, true, true, true, true] [] a42_l0))) (
  .seq (.reg [⟨some 65, .cp (.t 7), none⟩,
      ⟨some 66, .tk 8, none⟩,
      ⟨some 67, .cp (.t 9), none⟩,
      ⟨some 4, .cp (.t 65), none⟩,
      ⟨some 5, .tk 66, none⟩,
      ⟨some 6, .cp (.t 67), none⟩]) (
  .frz 1 4 (.ret)))))))
def af42 : AFn := ⟨68, 2, [.t 4, .t 5, .t 6], a42⟩
theorem ak42 : chkF Try.prog 42 af42 = true := by kernel_rfl

-- f43 fingerpost/resend.Acked  boxes 2 notes []
def a43_l0 : AC := .seq (.reg [⟨some 12, .bin .lss (.t 11) (.t 10), none⟩]) (
  .seq (.cond (.t 12) (
    .skip) (
    .exit 0)) (
  .seq (.block 1 (
    .seq (.reg [⟨some 13, .iaE 4 (.t 9) (.t 11), none⟩,
        ⟨some 14, .ld (some 4) (.t 13), none⟩,
        ⟨some 8, .alloc 1 4 [.int .i64 0, .str [], .int .i64 0, .int .i64 0], none⟩,
        ⟨none, .st 4 (.t 8) (.t 14), none⟩]) (
    .seq (.reg [⟨some 15, .ld (some 7) (.t 3), none⟩,
        ⟨some 16, .fa 0 (.t 8), none⟩,
        ⟨some 17, .ld none (.t 16), none⟩,
        ⟨some 18, .call 82 [.t 15, .t 17], none⟩,
        ⟨some 19, .un .not (.t 18), none⟩]) (
    .cond (.t 19) (
      .reg [⟨some 20, .tk 6, none⟩,
          ⟨some 21, .ld (some 4) (.t 8), none⟩,
          ⟨some 22, .bs 4 [.t 21], none⟩,
          ⟨some 23, .app 4 40 (.t 20) (.t 22), none⟩,
          ⟨some 6, .tk 23, none⟩]) (
      .skip))))) (
  .reg [⟨some 24, .bin .add (.t 11) (.c (.int .i64 1)), none⟩,
      ⟨some 11, .cp (.t 24), none⟩])))
def a43 : AC := .seq (.reg [⟨some 3, .box 0 7 (.t 1), none⟩,
      ⟨some 4, .cp (.c (.sl .own 4 [])), none⟩,
      ⟨some 5, .cp (.c (.int .i64 0)), none⟩]) (
  .seq (.reg [⟨some 6, .cp (.c (.sl .own 4 [])), none⟩]) (
  .seq (.seq (.reg [⟨some 9, .cp (.t 0), none⟩,
      ⟨some 10, .len (.t 9), none⟩,
      ⟨some 11, .cp (.c (.int .i64 0)), none⟩]) (
  .block 0 (
    .loop [false, false, false, false, false, false, false, false, true, false, false, false, true, true, true, true, true, true, true, true, true, true, true, true, true] [1] a43_l0))) (
  .seq (.reg [⟨some 25, .cp (.t 6), none⟩,
      ⟨some 26, .tk 0, none⟩,
      ⟨some 27, .len (.t 26), none⟩,
      ⟨some 28, .tk 6, none⟩,
      ⟨some 29, .len (.t 28), none⟩,
      ⟨some 30, .bin .sub (.t 27) (.t 29), none⟩,
      ⟨some 4, .tk 25, none⟩,
      ⟨some 5, .cp (.t 30), none⟩]) (
  .ret))))
def af43 : AFn := ⟨31, 2, [.t 4, .t 5], a43⟩
theorem ak43 : chkF Try.prog 43 af43 = true := by kernel_rfl

-- f44 fingerpost/fingerpostlaw17.awake  boxes 0 notes []
def a44 : AC := .seq (.reg [⟨some 0, .cp (.c (.bool false)), none⟩]) (
  .seq (.reg [⟨some 15, .call 40 [], none⟩,
      ⟨some 16, .call 41 [.c (.sl .own 4 []), .c (.int .i64 4), .c (.str [97]), .t 15], none⟩,
      ⟨some 14, .tk 16, none⟩,
      ⟨some 17, .extt 14 0, none⟩,
      ⟨some 18, .ext (.t 14) 1, none⟩,
      ⟨some 1, .tk 17, none⟩,
      ⟨some 2, .cp (.t 18), none⟩]) (
  .seq (.reg [⟨some 20, .tk 1, none⟩,
      ⟨some 21, .call 40 [], none⟩,
      ⟨some 22, .call 41 [.t 20, .c (.int .i64 5), .c (.str [98]), .t 21], none⟩,
      ⟨some 19, .tk 22, none⟩,
      ⟨some 23, .extt 19 0, none⟩,
      ⟨some 24, .ext (.t 19) 1, none⟩,
      ⟨some 1, .tk 23, none⟩]) (
  .seq (.reg [⟨some 26, .cp (.t 1), none⟩,
      ⟨some 27, .call 40 [], none⟩,
      ⟨some 28, .call 41 [.t 26, .c (.int .i64 5), .c (.str [99]), .t 27], none⟩,
      ⟨some 25, .tk 28, none⟩,
      ⟨some 29, .extt 25 0, none⟩,
      ⟨some 30, .ext (.t 25) 1, none⟩,
      ⟨some 3, .tk 29, none⟩,
      ⟨some 4, .cp (.t 30), none⟩]) (
  .seq (.reg [⟨some 32, .cp (.t 1), none⟩,
      ⟨some 33, .bld [.int .i64 0, .int .u32 0, .int .u32 0, .int .u32 0, .int .u32 0, .int .i64 0, .int .i64 0] [(5, 1, .c (.int .i64 5))], none⟩,
      ⟨some 34, .call 43 [.t 32, .t 33], none⟩,
      ⟨some 31, .tk 34, none⟩,
      ⟨some 35, .extt 31 0, none⟩,
      ⟨some 36, .ext (.t 31) 1, none⟩,
      ⟨some 5, .tk 35, none⟩,
      ⟨some 6, .cp (.t 36), none⟩]) (
  .seq (.reg [⟨some 38, .cp (.t 1), none⟩,
      ⟨some 39, .call 40 [], none⟩,
      ⟨some 40, .call 42 [.t 38, .t 39], none⟩,
      ⟨some 37, .tk 40, none⟩,
      ⟨some 41, .extt 37 0, none⟩,
      ⟨some 42, .extt 37 1, none⟩,
      ⟨some 43, .ext (.t 37) 2, none⟩,
      ⟨some 7, .tk 41, none⟩,
      ⟨some 8, .tk 42, none⟩,
      ⟨some 9, .cp (.t 43), none⟩]) (
  .seq (.reg [⟨some 45, .tk 7, none⟩,
      ⟨some 46, .call 40 [], none⟩,
      ⟨some 47, .call 42 [.t 45, .t 46], none⟩,
      ⟨some 44, .tk 47, none⟩,
      ⟨some 48, .extt 44 0, none⟩,
      ⟨some 49, .extt 44 1, none⟩,
      ⟨some 50, .ext (.t 44) 2, none⟩,
      ⟨some 7, .tk 48, none⟩,
      ⟨some 10, .tk 49, none⟩,
      ⟨some 11, .cp (.t 50), none⟩]) (
  .seq (.reg [⟨some 52, .call 40 [], none⟩,
      ⟨some 53, .call 41 [.c (.sl .own 4 []), .c (.int .i64 (-1)), .c (.str []), .t 52], none⟩,
      ⟨some 51, .tk 53, none⟩,
      ⟨some 54, .extt 51 0, none⟩,
      ⟨some 55, .ext (.t 51) 1, none⟩,
      ⟨some 12, .tk 54, none⟩,
      ⟨some 13, .cp (.t 55), none⟩]) (
  .seq (.seq (.reg [⟨some 56, .cp (.t 5), none⟩,
      ⟨some 57, .len (.t 56), none⟩,
      ⟨some 58, .bin .neq (.t 57) (.c (.int .i64 1)), none⟩,
      ⟨some 59, .cp (.t 58), none⟩,
      ⟨some 60, .cp (.t 10), some (59, false)⟩,
      ⟨some 61, .len (.t 60), some (59, false)⟩,
      ⟨some 62, .bin .neq (.t 61) (.c (.int .i64 2)), some (59, false)⟩,
      ⟨some 63, .pick (.t 59) (.c (.bool true)) (.t 62), none⟩,
      ⟨some 64, .cp (.t 63), none⟩,
      ⟨some 65, .cp (.t 7), some (64, false)⟩,
      ⟨some 66, .len (.t 65), some (64, false)⟩,
      ⟨some 67, .bin .neq (.t 66) (.c (.int .i64 2)), some (64, false)⟩,
      ⟨some 68, .pick (.t 64) (.c (.bool true)) (.t 67), none⟩]) (
  .cond (.t 68) (
    .seq (.reg [⟨some 0, .cp (.c (.bool false)), none⟩]) (
    .ret)) (
    .skip))) (
  .seq (.reg [⟨some 69, .cp (.t 2), none⟩,
      ⟨some 70, .bin .eql (.t 69) (.c (.int .i64 0)), none⟩,
      ⟨some 71, .cp (.t 70), none⟩,
      ⟨some 72, .cp (.t 4), some (71, true)⟩,
      ⟨some 73, .bin .eql (.t 72) (.c (.int .i64 10)), some (71, true)⟩,
      ⟨some 74, .pick (.t 71) (.t 73) (.c (.bool false)), none⟩,
      ⟨some 75, .cp (.t 74), none⟩,
      ⟨some 76, .cp (.t 6), some (75, true)⟩,
      ⟨some 77, .bin .eql (.t 76) (.c (.int .i64 1)), some (75, true)⟩,
      ⟨some 78, .pick (.t 75) (.t 77) (.c (.bool false)), none⟩,
      ⟨some 79, .cp (.t 78), none⟩,
      ⟨some 80, .cp (.t 5), some (79, true)⟩,
      ⟨some 81, .iaE 4 (.t 80) (.c (.int .i64 0)), some (79, true)⟩,
      ⟨some 82, .fa 0 (.t 81), some (79, true)⟩,
      ⟨some 83, .ld none (.t 82), some (79, true)⟩,
      ⟨some 84, .bin .eql (.t 83) (.c (.int .i64 5)), some (79, true)⟩,
      ⟨some 85, .pick (.t 79) (.t 84) (.c (.bool false)), none⟩,
      ⟨some 86, .cp (.t 85), none⟩,
      ⟨some 87, .tk 8, some (86, true)⟩,
      ⟨some 88, .len (.t 87), some (86, true)⟩,
      ⟨some 89, .bin .eql (.t 88) (.c (.int .i64 0)), some (86, true)⟩,
      ⟨some 90, .pick (.t 86) (.t 89) (.c (.bool false)), none⟩,
      ⟨some 91, .cp (.t 90), none⟩,
      ⟨some 92, .cp (.t 9), some (91, true)⟩,
      ⟨some 93, .un .not (.t 92), some (91, true)⟩,
      ⟨some 94, .pick (.t 91) (.t 93) (.c (.bool false)), none⟩,
      ⟨some 95, .cp (.t 94), none⟩,
      ⟨some 96, .tk 10, some (95, true)⟩,
      ⟨some 97, .iaE 1 (.t 96) (.c (.int .i64 0)), some (95, true)⟩,
      ⟨some 98, .ld none (.t 97), some (95, true)⟩,
      ⟨some 99, .bin .eql (.t 98) (.c (.str [97])), some (95, true)⟩,
      ⟨some 100, .pick (.t 95) (.t 99) (.c (.bool false)), none⟩,
      ⟨some 101, .cp (.t 100), none⟩,
      ⟨some 102, .tk 7, some (101, true)⟩,
      ⟨some 103, .iaE 4 (.t 102) (.c (.int .i64 0)), some (101, true)⟩,
      ⟨some 104, .fa 2 (.t 103), some (101, true)⟩,
      ⟨some 105, .ld none (.t 104), some (101, true)⟩,
      ⟨some 106, .bin .eql (.t 105) (.c (.int .i64 2)), some (101, true)⟩,
      ⟨some 107, .pick (.t 101) (.t 106) (.c (.bool false)), none⟩,
      ⟨some 108, .cp (.t 107), none⟩,
      ⟨some 109, .cp (.t 13), some (108, true)⟩,
      ⟨some 110, .bin .eql (.t 109) (.c (.int .i64 1)), some (108, true)⟩,
      ⟨some 111, .pick (.t 108) (.t 110) (.c (.bool false)), none⟩,
      ⟨some 112, .cp (.t 111), none⟩,
      ⟨some 113, .call 40 [], some (112, true)⟩,
      ⟨some 114, .call 100 [.t 113], some (112, true)⟩,
      ⟨some 115, .pick (.t 112) (.t 114) (.c (.bool false)), none⟩,
      ⟨some 116, .cp (.t 115), none⟩,
      ⟨some 117, .bld [.int .i64 0, .int .i64 0, .int .i64 0, .int .i64 0] [], some (116, true)⟩,
      ⟨some 118, .call 100 [.t 117], some (116, true)⟩,
      ⟨some 119, .un .not (.t 118), some (116, true)⟩,
      ⟨some 120, .pick (.t 116) (.t 119) (.c (.bool false)), none⟩,
      ⟨some 121, .cp (.t 120), none⟩,
      ⟨some 122, .cp (.t 1), some (121, true)⟩,
      ⟨some 123, .cp (.t 1), some (121, true)⟩,
      ⟨some 124, .call 101 [.t 122, .t 123], some (121, true)⟩,
      ⟨some 125, .pick (.t 121) (.t 124) (.c (.bool false)), none⟩,
      ⟨some 126, .cp (.t 125), none⟩,
      ⟨some 127, .tk 1, some (126, true)⟩,
      ⟨some 128, .tk 5, some (126, true)⟩,
      ⟨some 129, .call 101 [.t 127, .t 128], some (126, true)⟩,
      ⟨some 130, .un .not (.t 129), some (126, true)⟩,
      ⟨some 131, .pick (.t 126) (.t 130) (.c (.bool false)), none⟩,
      ⟨some 0, .cp (.t 131), none⟩]) (
  .ret))))))))))
def af44 : AFn := ⟨132, 0, [.t 0], a44⟩
theorem ak44 : chkF Try.prog 44 af44 = true := by kernel_rfl

-- f82 fingerpost/acks.Has  boxes 1 notes []
def a82 : AC := .seq (.reg [⟨some 2, .box 0 7 (.t 0), none⟩,
      ⟨some 4, .cp (.c (.bool false)), none⟩]) (
  .seq (.block 0 (
    .seq (.reg [⟨some 6, .cp (.t 1), none⟩,
        ⟨some 7, .fa 5 (.t 2), none⟩,
        ⟨some 8, .ld none (.t 7), none⟩,
        ⟨some 9, .bin .lss (.t 6) (.t 8), none⟩,
        ⟨some 5, .cp (.t 9), none⟩]) (
    .cond (.t 5) (
      .seq (.reg [⟨some 4, .cp (.c (.bool true)), none⟩]) (
      .ret)) (
      .seq (.seq (.reg [⟨some 11, .fa 5 (.t 2), none⟩,
          ⟨some 12, .ld none (.t 11), none⟩,
          ⟨some 13, .bin .lss (.t 12) (.c (.int .i64 0)), none⟩,
          ⟨some 10, .cp (.t 13), none⟩]) (
      .cond (.t 10) (
        .skip) (
        .seq (.reg [⟨some 14, .cp (.t 1), none⟩,
            ⟨some 15, .bin .gtr (.t 14) (.c (.int .i64 65535)), none⟩,
            ⟨some 10, .cp (.t 15), none⟩]) (
        .cond (.t 10) (
          .skip) (
          .drw [⟨some 16, .cp (.t 1), none⟩,
              ⟨some 17, .fa 5 (.t 2), none⟩,
              ⟨some 18, .ld none (.t 17), none⟩,
              ⟨some 19, .bin .sub (.t 16) (.t 18), none⟩,
              ⟨some 20, .call 121 [], none⟩,
              ⟨some 21, .cp (.c (.int .i64 8)), none⟩,
              ⟨some 22, .bin .geq (.t 19) (.t 21), none⟩,
              ⟨some 10, .cp (.t 22), none⟩] []))))) (
      .cond (.t 10) (
        .seq (.reg [⟨some 4, .cp (.c (.bool false)), none⟩]) (
        .ret)) (
        .skip)))))) (
  .seq (.drw [⟨some 23, .fa 6 (.t 2), none⟩,
      ⟨some 24, .ld none (.t 23), none⟩,
      ⟨some 25, .call 121 [], none⟩,
      ⟨some 26, .cp (.t 1), none⟩,
      ⟨some 27, .fa 5 (.t 2), none⟩,
      ⟨some 28, .ld none (.t 27), none⟩,
      ⟨some 29, .bin .sub (.t 26) (.t 28), none⟩,
      ⟨some 30, .ixA 8 (.t 25) (.t 29), none⟩,
      ⟨some 31, .bin .and (.t 24) (.t 30), none⟩,
      ⟨some 32, .bin .neq (.t 31) (.c (.int .i64 0)), none⟩,
      ⟨some 4, .cp (.t 32), none⟩] []) (
  .ret)))
def af82 : AFn := ⟨33, 1, [.t 4], a82⟩
theorem ak82 : chkF Try.prog 82 af82 = true := by kernel_rfl

-- f99 fingerpost/serial.Right  boxes 0 notes []
def a99 : AC := .seq (.reg [⟨some 2, .cp (.c (.bool false)), none⟩]) (
  .seq (.reg [⟨some 3, .cp (.t 0), none⟩,
      ⟨some 4, .bin .geq (.t 3) (.c (.int .i64 0)), none⟩,
      ⟨some 5, .cp (.t 4), none⟩,
      ⟨some 6, .cp (.t 0), some (5, true)⟩,
      ⟨some 7, .bin .leq (.t 6) (.c (.int .i64 65535)), some (5, true)⟩,
      ⟨some 8, .pick (.t 5) (.t 7) (.c (.bool false)), none⟩,
      ⟨some 2, .cp (.t 8), none⟩]) (
  .ret))
def af99 : AFn := ⟨9, 0, [.t 2], a99⟩
theorem ak99 : chkF Try.prog 99 af99 = true := by kernel_rfl

-- f100 fingerpost/resend.Right  boxes 1 notes []
def a100 : AC := .seq (.reg [⟨some 1, .box 0 4 (.t 0), none⟩,
      ⟨some 2, .cp (.c (.bool false)), none⟩]) (
  .seq (.reg [⟨some 3, .fa 0 (.t 1), none⟩,
      ⟨some 4, .ld none (.t 3), none⟩,
      ⟨some 5, .call 128 [.t 4, .c (.int .i64 1), .c (.int .i64 100)], none⟩,
      ⟨some 6, .cp (.t 5), none⟩,
      ⟨some 7, .fa 1 (.t 1), some (6, true)⟩,
      ⟨some 8, .ld none (.t 7), some (6, true)⟩,
      ⟨some 9, .fa 0 (.t 1), some (6, true)⟩,
      ⟨some 10, .ld none (.t 9), some (6, true)⟩,
      ⟨some 11, .bin .gtr (.t 8) (.t 10), some (6, true)⟩,
      ⟨some 12, .pick (.t 6) (.t 11) (.c (.bool false)), none⟩,
      ⟨some 13, .cp (.t 12), none⟩,
      ⟨some 14, .fa 1 (.t 1), some (13, true)⟩,
      ⟨some 15, .ld none (.t 14), some (13, true)⟩,
      ⟨some 16, .bin .leq (.t 15) (.c (.int .i64 1000)), some (13, true)⟩,
      ⟨some 17, .pick (.t 13) (.t 16) (.c (.bool false)), none⟩,
      ⟨some 18, .cp (.t 17), none⟩,
      ⟨some 19, .fa 2 (.t 1), some (18, true)⟩,
      ⟨some 20, .ld none (.t 19), some (18, true)⟩,
      ⟨some 21, .call 128 [.t 20, .c (.int .i64 1), .c (.int .i64 100)], some (18, true)⟩,
      ⟨some 22, .pick (.t 18) (.t 21) (.c (.bool false)), none⟩,
      ⟨some 23, .cp (.t 22), none⟩,
      ⟨some 24, .fa 3 (.t 1), some (23, true)⟩,
      ⟨some 25, .ld none (.t 24), some (23, true)⟩,
      ⟨some 26, .call 128 [.t 25, .c (.int .i64 1), .c (.int .i64 10)], some (23, true)⟩,
      ⟨some 27, .pick (.t 23) (.t 26) (.c (.bool false)), none⟩,
      ⟨some 2, .cp (.t 27), none⟩]) (
  .ret))
def af100 : AFn := ⟨28, 1, [.t 2], a100⟩
theorem ak100 : chkF Try.prog 100 af100 = true := by kernel_rfl

-- f101 fingerpost/resend.Same  boxes 0 notes []
def a101 : AC := .seq (.reg [⟨some 4, .cp (.c (.bool false)), none⟩]) (
  .seq (.reg [⟨some 5, .tk 0, none⟩,
      ⟨some 6, .tk 1, none⟩,
      ⟨some 7, .call 129 [.t 5, .t 6], none⟩,
      ⟨some 4, .cp (.t 7), none⟩]) (
  .ret))
def af101 : AFn := ⟨8, 0, [.t 4], a101⟩
theorem ak101 : chkF Try.prog 101 af101 = true := by kernel_rfl

-- f121 fingerpost/acks.bit  boxes 1 notes []
def a121 : AC := .seq (.reg [⟨some 0, .alloc 0 8 [.int .i64 0, .int .i64 0, .int .i64 0, .int .i64 0, .int .i64 0, .int .i64 0, .int .i64 0, .int .i64 0], none⟩]) (
  .seq (.reg [⟨some 1, .bld [.int .i64 0, .int .i64 0, .int .i64 0, .int .i64 0, .int .i64 0, .int .i64 0, .int .i64 0, .int .i64 0] [(0, 1, .c (.int .i64 1)), (1, 1, .c (.int .i64 2)), (2, 1, .c (.int .i64 4)), (3, 1, .c (.int .i64 8)), (4, 1, .c (.int .i64 16)), (5, 1, .c (.int .i64 32)), (6, 1, .c (.int .i64 64)), (7, 1, .c (.int .i64 128))], none⟩,
      ⟨none, .st 8 (.t 0) (.t 1), none⟩]) (
  .ret))
def af121 : AFn := ⟨2, 1, [.c 0 (some 8)], a121⟩
theorem ak121 : chkF Try.prog 121 af121 = true := by kernel_rfl

-- f128 fingerpost/resend.within  boxes 0 notes []
def a128 : AC := .seq (.reg [⟨some 6, .cp (.c (.bool false)), none⟩]) (
  .seq (.reg [⟨some 7, .cp (.t 0), none⟩,
      ⟨some 8, .cp (.t 1), none⟩,
      ⟨some 9, .bin .geq (.t 7) (.t 8), none⟩,
      ⟨some 10, .cp (.t 9), none⟩,
      ⟨some 11, .cp (.t 0), some (10, true)⟩,
      ⟨some 12, .cp (.t 2), some (10, true)⟩,
      ⟨some 13, .bin .leq (.t 11) (.t 12), some (10, true)⟩,
      ⟨some 14, .pick (.t 10) (.t 13) (.c (.bool false)), none⟩,
      ⟨some 6, .cp (.t 14), none⟩]) (
  .ret))
def af128 : AFn := ⟨15, 0, [.t 6], a128⟩
theorem ak128 : chkF Try.prog 128 af128 = true := by kernel_rfl

-- f129 slices.Equal[[]fingerpost/api.Sent,fingerpost/api.Sent]  boxes 0 notes []
def a129_l0 : AC := .seq (.reg [⟨some 14, .bin .lss (.t 13) (.t 12), none⟩]) (
  .seq (.cond (.t 14) (
    .skip) (
    .exit 0)) (
  .seq (.block 1 (
    .seq (.reg [⟨some 15, .cp (.t 13), none⟩,
        ⟨some 5, .cp (.t 15), none⟩]) (
    .seq (.drw [⟨some 16, .cp (.t 0), none⟩,
        ⟨some 17, .cp (.t 5), none⟩,
        ⟨some 18, .iaE 4 (.t 16) (.t 17), none⟩,
        ⟨some 19, .ld (some 4) (.t 18), none⟩,
        ⟨some 20, .cp (.t 1), none⟩,
        ⟨some 21, .cp (.t 5), none⟩,
        ⟨some 22, .iaE 4 (.t 20) (.t 21), none⟩,
        ⟨some 23, .ld (some 4) (.t 22), none⟩,
        ⟨some 24, .eqA true [.i, .s, .i, .i] (.t 19) (.t 23), none⟩] []) (
    .cond (.t 24) (
      .seq (.reg [⟨some 4, .cp (.c (.bool false)), none⟩]) (
      .ret)) (
      .skip))))) (
  .reg [⟨some 25, .bin .add (.t 13) (.c (.int .i64 1)), none⟩,
      ⟨some 13, .cp (.t 25), none⟩])))
def a129 : AC := .seq (.reg [⟨some 4, .cp (.c (.bool false)), none⟩]) (
  .seq (.seq (.reg [⟨some 6, .cp (.t 0), none⟩,
      ⟨some 7, .len (.t 6), none⟩,
      ⟨some 8, .cp (.t 1), none⟩,
      ⟨some 9, .len (.t 8), none⟩,
      ⟨some 10, .bin .neq (.t 7) (.t 9), none⟩]) (
  .cond (.t 10) (
    .seq (.reg [⟨some 4, .cp (.c (.bool false)), none⟩]) (
    .ret)) (
    .skip))) (
  .seq (.seq (.reg [⟨some 11, .cp (.t 0), none⟩,
      ⟨some 12, .len (.t 11), none⟩,
      ⟨some 13, .cp (.c (.int .i64 0)), none⟩]) (
  .block 0 (
    .loop [false, false, false, false, true, true, false, false, false, false, false, false, false, false, true, true, true, true, true, true, true, true, true, true, true, true] [] a129_l0))) (
  .seq (.reg [⟨some 4, .cp (.c (.bool true)), none⟩]) (
  .ret))))
def af129 : AFn := ⟨26, 0, [.t 4], a129⟩
theorem ak129 : chkF Try.prog 129 af129 = true := by kernel_rfl

end Go.Proofs.Ytmchbkmenokkdaa

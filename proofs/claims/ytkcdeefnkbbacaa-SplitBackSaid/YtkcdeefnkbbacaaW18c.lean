/- The functions as data, and that they are the program's. -/
import Derived.Test.YtkcdeefnkbbacaaAwN
set_option maxRecDepth 100000
namespace Go.Proofs.Ytkcdeefnkbbacaa
open Go.RowKit
-- f11 fingerpost/fingerpostlaw18.SplitBack  boxes 1 notes []
def a11_l0 : AC := .seq (.reg [⟨some 33, .bin .lss (.t 32) (.t 31), none⟩]) (
  .seq (.cond (.t 33) (
    .skip) (
    .exit 0)) (
  .seq (.block 1 (
    .seq (.reg [⟨some 34, .cp (.t 32), none⟩,
        ⟨some 35, .iaE 1 (.t 30) (.t 32), none⟩,
        ⟨some 36, .ld none (.t 35), none⟩,
        ⟨some 6, .cp (.t 34), none⟩,
        ⟨some 7, .tk 36, none⟩]) (
    .seq (.reg [⟨some 37, .cp (.t 6), none⟩,
        ⟨some 38, .bin .add (.t 37) (.c (.int .i64 1)), none⟩,
        ⟨some 39, .cp (.t 3), none⟩,
        ⟨some 40, .len (.t 39), none⟩,
        ⟨some 41, .bin .lss (.t 38) (.t 40), none⟩,
        ⟨some 42, .tk 7, none⟩,
        ⟨some 43, .bld [.int .i64 0, .int .u32 0, .int .u32 0, .int .u32 0, .int .u32 0, .int .i64 0, .bool false, .sl .own 4 []] [(6, 1, .t 41), (7, 1, .t 42)], none⟩,
        ⟨some 8, .alloc 0 8 [.int .i64 0, .int .u32 0, .int .u32 0, .int .u32 0, .int .u32 0, .int .i64 0, .bool false, .sl .own 4 []], none⟩,
        ⟨none, .st 8 (.t 8) (.t 43), none⟩]) (
    .seq (.reg [⟨some 45, .tk 5, none⟩,
        ⟨some 46, .ld (some 8) (.t 8), none⟩,
        ⟨some 47, .call 56 [.t 45, .t 46], none⟩,
        ⟨some 44, .tk 47, none⟩,
        ⟨some 48, .extt 44 0, none⟩,
        ⟨some 49, .extt 44 1, none⟩,
        ⟨some 50, .ext (.t 44) 2, none⟩,
        ⟨some 51, .ext (.t 44) 3, none⟩,
        ⟨some 9, .tk 48, none⟩,
        ⟨some 10, .tk 49, none⟩,
        ⟨some 11, .cp (.t 50), none⟩,
        ⟨some 12, .cp (.t 51), none⟩]) (
    .seq (.seq (.reg [⟨some 52, .cp (.t 12), none⟩,
        ⟨some 53, .bin .neq (.t 52) (.c (.int .i64 0)), none⟩,
        ⟨some 54, .cp (.t 53), none⟩,
        ⟨some 55, .cp (.t 11), some (54, false)⟩,
        ⟨some 56, .cp (.t 6), some (54, false)⟩,
        ⟨some 57, .bin .add (.t 56) (.c (.int .i64 1)), some (54, false)⟩,
        ⟨some 58, .cp (.t 3), some (54, false)⟩,
        ⟨some 59, .len (.t 58), some (54, false)⟩,
        ⟨some 60, .bin .eql (.t 57) (.t 59), some (54, false)⟩,
        ⟨some 61, .eqB true (.t 55) (.t 60), some (54, false)⟩,
        ⟨some 62, .pick (.t 54) (.c (.bool true)) (.t 61), none⟩,
        ⟨some 63, .cp (.t 62), none⟩,
        ⟨some 64, .ld (some 8) (.t 8), some (63, false)⟩,
        ⟨some 65, .call 32 [.t 64], some (63, false)⟩,
        ⟨some 66, .un .not (.t 65), some (63, false)⟩,
        ⟨some 67, .pick (.t 63) (.c (.bool true)) (.t 66), none⟩]) (
    .cond (.t 67) (
      .seq (.reg [⟨some 2, .cp (.c (.bool false)), none⟩]) (
      .ret)) (
      .skip))) (
    .seq (.seq (.reg [⟨some 68, .cp (.t 11), none⟩]) (
    .cond (.t 68) (
      .seq (.reg [⟨some 69, .tk 10, none⟩,
          ⟨some 70, .tk 0, none⟩,
          ⟨some 71, .call 57 [.t 69, .t 70], none⟩,
          ⟨some 72, .cp (.t 71), none⟩,
          ⟨some 73, .tk 9, some (72, true)⟩,
          ⟨some 74, .len (.t 73), some (72, true)⟩,
          ⟨some 75, .bin .eql (.t 74) (.c (.int .i64 0)), some (72, true)⟩,
          ⟨some 76, .pick (.t 72) (.t 75) (.c (.bool false)), none⟩,
          ⟨some 77, .cp (.t 76), none⟩,
          ⟨some 78, .call 54 [], some (77, true)⟩,
          ⟨some 79, .pick (.t 77) (.t 78) (.c (.bool false)), none⟩,
          ⟨some 2, .cp (.t 79), none⟩]) (
      .ret)) (
      .skip))) (
    .reg [⟨some 80, .tk 9, none⟩,
        ⟨some 5, .tk 80, none⟩]))))))) (
  .reg [⟨some 81, .bin .add (.t 32) (.c (.int .i64 1)), none⟩,
      ⟨some 32, .cp (.t 81), none⟩])))
def a11 : AC := .seq (.reg [⟨some 2, .cp (.c (.bool false)), none⟩]) (
  .seq (.seq (.reg [⟨some 13, .cp (.t 0), none⟩,
      ⟨some 14, .len (.t 13), none⟩,
      ⟨some 15, .bin .gtr (.t 14) (.c (.int .i64 100)), none⟩]) (
  .cond (.t 15) (
    .seq (.reg [⟨some 16, .call 54 [], none⟩,
        ⟨some 2, .cp (.t 16), none⟩]) (
    .ret)) (
    .skip))) (
  .seq (.reg [⟨some 18, .cp (.t 0), none⟩,
      ⟨some 19, .call 55 [.t 18], none⟩,
      ⟨some 17, .tk 19, none⟩,
      ⟨some 20, .extt 17 0, none⟩,
      ⟨some 21, .ext (.t 17) 1, none⟩,
      ⟨some 3, .tk 20, none⟩,
      ⟨some 4, .cp (.t 21), none⟩]) (
  .seq (.seq (.reg [⟨some 22, .cp (.t 4), none⟩,
      ⟨some 23, .bin .neq (.t 22) (.c (.int .i64 0)), none⟩]) (
  .cond (.t 23) (
    .seq (.reg [⟨some 24, .tk 3, none⟩,
        ⟨some 25, .len (.t 24), none⟩,
        ⟨some 26, .bin .eql (.t 25) (.c (.int .i64 0)), none⟩,
        ⟨some 27, .cp (.t 26), none⟩,
        ⟨some 28, .call 54 [], some (27, true)⟩,
        ⟨some 29, .pick (.t 27) (.t 28) (.c (.bool false)), none⟩,
        ⟨some 2, .cp (.t 29), none⟩]) (
    .ret)) (
    .skip))) (
  .seq (.reg [⟨some 5, .cp (.c (.sl .own 4 [])), none⟩]) (
  .seq (.seq (.reg [⟨some 30, .cp (.t 3), none⟩,
      ⟨some 31, .len (.t 30), none⟩,
      ⟨some 32, .cp (.c (.int .i64 0)), none⟩]) (
  .block 0 (
    .loop [false, false, true, false, false, false, true, true, true, true, true, true, true, false, false, false, false, false, false, false, false, false, false, false, false, false, false, false, false, false, false, false, false, true, true, true, true, true, true, true, true, true, true, true, true, true, true, true, true, true, true, true, true, true, true, true, true, true, true, true, true, true, true, true, true, true, true, true, true, true, true, true, true, true, true, true, true, true, true, true, true, true] [0] a11_l0))) (
  .seq (.reg [⟨some 2, .cp (.c (.bool false)), none⟩]) (
  .ret)))))))
def af11 : AFn := ⟨82, 1, [.t 2], a11⟩
theorem ak11 : chkF Try.prog 11 af11 = true := by kernel_rfl

-- f54 fingerpost/fingerpostlaw18.awake  boxes 0 notes []
def a54 : AC := .seq (.reg [⟨some 0, .cp (.c (.bool false)), none⟩]) (
  .seq (.reg [⟨some 20, .call 114 [.c (.int .i64 7)], none⟩,
      ⟨some 21, .call 55 [.t 20], none⟩,
      ⟨some 19, .tk 21, none⟩,
      ⟨some 22, .extt 19 0, none⟩,
      ⟨some 23, .ext (.t 19) 1, none⟩,
      ⟨some 1, .tk 22, none⟩,
      ⟨some 2, .cp (.t 23), none⟩]) (
  .seq (.reg [⟨some 25, .call 114 [.c (.int .i64 49)], none⟩,
      ⟨some 26, .call 55 [.t 25], none⟩,
      ⟨some 24, .tk 26, none⟩,
      ⟨some 27, .extt 24 0, none⟩,
      ⟨some 28, .ext (.t 24) 1, none⟩,
      ⟨some 3, .tk 27, none⟩,
      ⟨some 4, .cp (.t 28), none⟩]) (
  .seq (.reg [⟨some 30, .call 55 [.c (.sl .own 4 [])], none⟩,
      ⟨some 29, .tk 30, none⟩,
      ⟨some 31, .extt 29 0, none⟩,
      ⟨some 32, .ext (.t 29) 1, none⟩,
      ⟨some 5, .tk 31, none⟩,
      ⟨some 6, .cp (.t 32), none⟩]) (
  .seq (.seq (.reg [⟨some 33, .cp (.t 1), none⟩,
      ⟨some 34, .len (.t 33), none⟩,
      ⟨some 35, .bin .neq (.t 34) (.c (.int .i64 2)), none⟩,
      ⟨some 36, .cp (.t 35), none⟩,
      ⟨some 37, .tk 5, some (36, false)⟩,
      ⟨some 38, .len (.t 37), some (36, false)⟩,
      ⟨some 39, .bin .neq (.t 38) (.c (.int .i64 1)), some (36, false)⟩,
      ⟨some 40, .pick (.t 36) (.c (.bool true)) (.t 39), none⟩]) (
  .cond (.t 40) (
    .seq (.reg [⟨some 0, .cp (.c (.bool false)), none⟩]) (
    .ret)) (
    .skip))) (
  .seq (.reg [⟨some 42, .cp (.t 1), none⟩,
      ⟨some 43, .iaE 1 (.t 42) (.c (.int .i64 0)), none⟩,
      ⟨some 44, .ld none (.t 43), none⟩,
      ⟨some 45, .bld [.int .i64 0, .int .u32 0, .int .u32 0, .int .u32 0, .int .u32 0, .int .i64 0, .bool false, .sl .own 4 []] [(6, 1, .c (.bool true)), (7, 1, .t 44)], none⟩,
      ⟨some 46, .call 56 [.c (.sl .own 4 []), .t 45], none⟩,
      ⟨some 41, .tk 46, none⟩,
      ⟨some 47, .extt 41 0, none⟩,
      ⟨some 48, .extt 41 1, none⟩,
      ⟨some 49, .ext (.t 41) 2, none⟩,
      ⟨some 50, .ext (.t 41) 3, none⟩,
      ⟨some 7, .tk 47, none⟩,
      ⟨some 8, .tk 48, none⟩,
      ⟨some 9, .cp (.t 49), none⟩,
      ⟨some 10, .cp (.t 50), none⟩]) (
  .seq (.reg [⟨some 52, .cp (.t 7), none⟩,
      ⟨some 53, .cp (.t 1), none⟩,
      ⟨some 54, .iaE 1 (.t 53) (.c (.int .i64 1)), none⟩,
      ⟨some 55, .ld none (.t 54), none⟩,
      ⟨some 56, .bld [.int .i64 0, .int .u32 0, .int .u32 0, .int .u32 0, .int .u32 0, .int .i64 0, .bool false, .sl .own 4 []] [(7, 1, .t 55)], none⟩,
      ⟨some 57, .call 56 [.t 52, .t 56], none⟩,
      ⟨some 51, .tk 57, none⟩,
      ⟨some 58, .extt 51 0, none⟩,
      ⟨some 59, .extt 51 1, none⟩,
      ⟨some 60, .ext (.t 51) 2, none⟩,
      ⟨some 61, .ext (.t 51) 3, none⟩,
      ⟨some 11, .tk 58, none⟩,
      ⟨some 12, .tk 59, none⟩,
      ⟨some 13, .cp (.t 60), none⟩,
      ⟨some 14, .cp (.t 61), none⟩]) (
  .seq (.reg [⟨some 63, .call 114 [.c (.int .i64 48)], none⟩,
      ⟨some 64, .call 114 [.c (.int .i64 1)], none⟩,
      ⟨some 65, .bld [.int .i64 0, .int .u32 0, .int .u32 0, .int .u32 0, .int .u32 0, .int .i64 0, .bool false, .sl .own 4 []] [(7, 1, .t 64)], none⟩,
      ⟨some 66, .call 56 [.t 63, .t 65], none⟩,
      ⟨some 62, .tk 66, none⟩,
      ⟨some 67, .extt 62 0, none⟩,
      ⟨some 68, .extt 62 1, none⟩,
      ⟨some 69, .ext (.t 62) 2, none⟩,
      ⟨some 70, .ext (.t 62) 3, none⟩,
      ⟨some 15, .tk 67, none⟩,
      ⟨some 16, .tk 68, none⟩,
      ⟨some 17, .cp (.t 69), none⟩,
      ⟨some 18, .cp (.t 70), none⟩]) (
  .seq (.reg [⟨some 71, .cp (.t 2), none⟩,
      ⟨some 72, .bin .eql (.t 71) (.c (.int .i64 0)), none⟩,
      ⟨some 73, .cp (.t 72), none⟩,
      ⟨some 74, .cp (.t 4), some (73, true)⟩,
      ⟨some 75, .bin .eql (.t 74) (.c (.int .i64 4)), some (73, true)⟩,
      ⟨some 76, .pick (.t 73) (.t 75) (.c (.bool false)), none⟩,
      ⟨some 77, .cp (.t 76), none⟩,
      ⟨some 78, .cp (.t 6), some (77, true)⟩,
      ⟨some 79, .bin .eql (.t 78) (.c (.int .i64 0)), some (77, true)⟩,
      ⟨some 80, .pick (.t 77) (.t 79) (.c (.bool false)), none⟩,
      ⟨some 81, .cp (.t 80), none⟩,
      ⟨some 82, .tk 1, some (81, true)⟩,
      ⟨some 83, .iaE 1 (.t 82) (.c (.int .i64 0)), some (81, true)⟩,
      ⟨some 84, .ld none (.t 83), some (81, true)⟩,
      ⟨some 85, .len (.t 84), some (81, true)⟩,
      ⟨some 86, .bin .eql (.t 85) (.c (.int .i64 6)), some (81, true)⟩,
      ⟨some 87, .pick (.t 81) (.t 86) (.c (.bool false)), none⟩,
      ⟨some 88, .cp (.t 87), none⟩,
      ⟨some 89, .tk 7, some (88, true)⟩,
      ⟨some 90, .len (.t 89), some (88, true)⟩,
      ⟨some 91, .bin .eql (.t 90) (.c (.int .i64 6)), some (88, true)⟩,
      ⟨some 92, .pick (.t 88) (.t 91) (.c (.bool false)), none⟩,
      ⟨some 93, .cp (.t 92), none⟩,
      ⟨some 94, .tk 8, some (93, true)⟩,
      ⟨some 95, .len (.t 94), some (93, true)⟩,
      ⟨some 96, .bin .eql (.t 95) (.c (.int .i64 0)), some (93, true)⟩,
      ⟨some 97, .pick (.t 93) (.t 96) (.c (.bool false)), none⟩,
      ⟨some 98, .cp (.t 97), none⟩,
      ⟨some 99, .cp (.t 9), some (98, true)⟩,
      ⟨some 100, .un .not (.t 99), some (98, true)⟩,
      ⟨some 101, .pick (.t 98) (.t 100) (.c (.bool false)), none⟩,
      ⟨some 102, .cp (.t 101), none⟩,
      ⟨some 103, .cp (.t 10), some (102, true)⟩,
      ⟨some 104, .bin .eql (.t 103) (.c (.int .i64 0)), some (102, true)⟩,
      ⟨some 105, .pick (.t 102) (.t 104) (.c (.bool false)), none⟩,
      ⟨some 106, .cp (.t 105), none⟩,
      ⟨some 107, .tk 11, some (106, true)⟩,
      ⟨some 108, .len (.t 107), some (106, true)⟩,
      ⟨some 109, .bin .eql (.t 108) (.c (.int .i64 0)), some (106, true)⟩,
      ⟨some 110, .pick (.t 106) (.t 109) (.c (.bool false)), none⟩,
      ⟨some 111, .cp (.t 110), none⟩,
      ⟨some 112, .tk 12, some (111, true)⟩,
      ⟨some 113, .call 114 [.c (.int .i64 7)], some (111, true)⟩,
      ⟨some 114, .call 57 [.t 112, .t 113], some (111, true)⟩,
      ⟨some 115, .pick (.t 111) (.t 114) (.c (.bool false)), none⟩,
      ⟨some 116, .cp (.t 115), none⟩,
      ⟨some 117, .cp (.t 13), some (116, true)⟩,
      ⟨some 118, .pick (.t 116) (.t 117) (.c (.bool false)), none⟩,
      ⟨some 119, .cp (.t 118), none⟩,
      ⟨some 120, .cp (.t 14), some (119, true)⟩,
      ⟨some 121, .bin .eql (.t 120) (.c (.int .i64 0)), some (119, true)⟩,
      ⟨some 122, .pick (.t 119) (.t 121) (.c (.bool false)), none⟩,
      ⟨some 123, .cp (.t 122), none⟩,
      ⟨some 124, .cp (.t 18), some (123, true)⟩,
      ⟨some 125, .bin .eql (.t 124) (.c (.int .i64 4)), some (123, true)⟩,
      ⟨some 126, .pick (.t 123) (.t 125) (.c (.bool false)), none⟩,
      ⟨some 127, .cp (.t 126), none⟩,
      ⟨some 128, .call 115 [], some (127, true)⟩,
      ⟨some 129, .bin .eql (.t 128) (.c (.int .i64 6)), some (127, true)⟩,
      ⟨some 130, .pick (.t 127) (.t 129) (.c (.bool false)), none⟩,
      ⟨some 0, .cp (.t 130), none⟩]) (
  .ret)))))))))
def af54 : AFn := ⟨131, 0, [.t 0], a54⟩
theorem ak54 : chkF Try.prog 54 af54 = true := by kernel_rfl

-- f55 fingerpost/split.Cut  boxes 0 notes []
def a55 : AC := .seq (.reg [⟨some 2, .cp (.c (.sl .own 1 [])), none⟩,
      ⟨some 3, .cp (.c (.int .i64 0)), none⟩]) (
  .seq (.seq (.reg [⟨some 6, .cp (.t 0), none⟩,
      ⟨some 7, .len (.t 6), none⟩,
      ⟨some 8, .bin .gtr (.t 7) (.c (.int .i64 48)), none⟩]) (
  .cond (.t 8) (
    .seq (.reg [⟨some 2, .cp (.c (.sl .own 1 [])), none⟩,
        ⟨some 3, .cp (.c (.int .i64 4)), none⟩]) (
    .ret)) (
    .skip))) (
  .seq (.seq (.reg [⟨some 10, .cp (.t 0), none⟩,
      ⟨some 11, .call 23 [.t 10], none⟩,
      ⟨some 9, .tk 11, none⟩,
      ⟨some 12, .ext (.t 9) 0, none⟩,
      ⟨some 13, .ext (.t 9) 1, none⟩,
      ⟨some 4, .cp (.t 12), none⟩,
      ⟨some 5, .cp (.t 13), none⟩]) (
  .seq (.reg [⟨some 14, .cp (.t 5), none⟩,
      ⟨some 15, .bin .neq (.t 14) (.c (.int .i64 0)), none⟩]) (
  .cond (.t 15) (
    .seq (.reg [⟨some 16, .cp (.t 5), none⟩,
        ⟨some 2, .cp (.c (.sl .own 1 [])), none⟩,
        ⟨some 3, .cp (.t 16), none⟩]) (
    .ret)) (
    .skip)))) (
  .seq (.reg [⟨some 17, .tk 0, none⟩,
      ⟨some 18, .call 115 [], none⟩,
      ⟨some 19, .call 116 [.t 17, .t 18], none⟩,
      ⟨some 2, .tk 19, none⟩,
      ⟨some 3, .cp (.c (.int .i64 0)), none⟩]) (
  .ret))))
def af55 : AFn := ⟨20, 0, [.t 2, .t 3], a55⟩
theorem ak55 : chkF Try.prog 55 af55 = true := by kernel_rfl

-- f56 fingerpost/split.Gather  boxes 1 notes []
def a56 : AC := .seq (.reg [⟨some 3, .box 0 8 (.t 1), none⟩,
      ⟨some 4, .cp (.c (.sl .own 4 [])), none⟩,
      ⟨some 5, .cp (.c (.sl .own 4 [])), none⟩,
      ⟨some 6, .cp (.c (.bool false)), none⟩,
      ⟨some 7, .cp (.c (.int .i64 0)), none⟩]) (
  .seq (.seq (.reg [⟨some 9, .cp (.t 0), none⟩,
      ⟨some 10, .len (.t 9), none⟩,
      ⟨some 11, .bin .gtr (.t 10) (.c (.int .i64 48)), none⟩,
      ⟨some 12, .cp (.t 11), none⟩,
      ⟨some 13, .fa 7 (.t 3), some (12, false)⟩,
      ⟨some 14, .ld none (.t 13), some (12, false)⟩,
      ⟨some 15, .len (.t 14), some (12, false)⟩,
      ⟨some 16, .cp (.t 0), some (12, false)⟩,
      ⟨some 17, .len (.t 16), some (12, false)⟩,
      ⟨some 18, .bin .sub (.c (.int .i64 48)) (.t 17), some (12, false)⟩,
      ⟨some 19, .bin .gtr (.t 15) (.t 18), some (12, false)⟩,
      ⟨some 20, .pick (.t 12) (.c (.bool true)) (.t 19), none⟩]) (
  .cond (.t 20) (
    .seq (.reg [⟨some 4, .cp (.c (.sl .own 4 [])), none⟩,
        ⟨some 5, .cp (.c (.sl .own 4 [])), none⟩,
        ⟨some 6, .cp (.c (.bool false)), none⟩,
        ⟨some 7, .cp (.c (.int .i64 4)), none⟩]) (
    .ret)) (
    .skip))) (
  .seq (.reg [⟨some 21, .tk 0, none⟩,
      ⟨some 22, .fa 7 (.t 3), none⟩,
      ⟨some 23, .ld none (.t 22), none⟩,
      ⟨some 24, .bs 1 [.t 21, .t 23], none⟩,
      ⟨some 25, .call 117 [.t 24], none⟩,
      ⟨some 8, .tk 25, none⟩]) (
  .seq (.seq (.reg [⟨some 26, .fa 6 (.t 3), none⟩,
      ⟨some 27, .ld none (.t 26), none⟩]) (
  .cond (.t 27) (
    .seq (.reg [⟨some 28, .tk 8, none⟩,
        ⟨some 4, .tk 28, none⟩,
        ⟨some 5, .cp (.c (.sl .own 4 [])), none⟩,
        ⟨some 6, .cp (.c (.bool false)), none⟩,
        ⟨some 7, .cp (.c (.int .i64 0)), none⟩]) (
    .ret)) (
    .skip))) (
  .seq (.reg [⟨some 29, .tk 8, none⟩,
      ⟨some 4, .cp (.c (.sl .own 4 [])), none⟩,
      ⟨some 5, .tk 29, none⟩,
      ⟨some 6, .cp (.c (.bool true)), none⟩,
      ⟨some 7, .cp (.c (.int .i64 0)), none⟩]) (
  .ret)))))
def af56 : AFn := ⟨30, 1, [.t 4, .t 5, .t 6, .t 7], a56⟩
theorem ak56 : chkF Try.prog 56 af56 = true := by kernel_rfl

-- f57 fingerpost/fingerpostlaw18.same  boxes 0 notes []
def a57_l0 : AC := .seq (.reg [⟨some 14, .bin .lss (.t 13) (.t 12), none⟩]) (
  .seq (.cond (.t 14) (
    .skip) (
    .exit 0)) (
  .seq (.block 1 (
    .seq (.reg [⟨some 15, .cp (.t 13), none⟩,
        ⟨some 5, .cp (.t 15), none⟩]) (
    .seq (.drw [⟨some 16, .cp (.t 0), none⟩,
        ⟨some 17, .cp (.t 5), none⟩,
        ⟨some 18, .iaE 4 (.t 16) (.t 17), none⟩,
        ⟨some 19, .ld (some 4) (.t 18), none⟩,
        ⟨some 20, .cp (.t 1), none⟩,
        ⟨some 21, .cp (.t 5), none⟩,
        ⟨some 22, .iaE 4 (.t 20) (.t 21), none⟩,
        ⟨some 23, .ld (some 4) (.t 22), none⟩,
        ⟨some 24, .eqA true [.i, .i, .i, .i] (.t 19) (.t 23), none⟩] []) (
    .cond (.t 24) (
      .seq (.reg [⟨some 4, .cp (.c (.bool false)), none⟩]) (
      .ret)) (
      .skip))))) (
  .reg [⟨some 25, .bin .add (.t 13) (.c (.int .i64 1)), none⟩,
      ⟨some 13, .cp (.t 25), none⟩])))
def a57 : AC := .seq (.reg [⟨some 4, .cp (.c (.bool false)), none⟩]) (
  .seq (.seq (.reg [⟨some 6, .cp (.t 0), none⟩,
      ⟨some 7, .len (.t 6), none⟩,
      ⟨some 8, .cp (.t 1), none⟩,
      ⟨some 9, .len (.t 8), none⟩,
      ⟨some 10, .bin .neq (.t 7) (.t 9), none⟩]) (
  .cond (.t 10) (
    .seq (.reg [⟨some 4, .cp (.c (.bool false)), none⟩]) (
    .ret)) (
    .skip))) (
  .seq (.seq (.reg [⟨some 11, .cp (.t 0), none⟩,
      ⟨some 12, .len (.t 11), none⟩,
      ⟨some 13, .cp (.c (.int .i64 0)), none⟩]) (
  .block 0 (
    .loop [false, false, false, false, true, true, false, false, false, false, false, false, false, false, true, true, true, true, true, true, true, true, true, true, true, true] [] a57_l0))) (
  .seq (.reg [⟨some 4, .cp (.c (.bool true)), none⟩]) (
  .ret))))
def af57 : AFn := ⟨26, 0, [.t 4], a57⟩
theorem ak57 : chkF Try.prog 57 af57 = true := by kernel_rfl

-- f114 fingerpost/fingerpostlaw18.many  boxes 0 notes []
def a114_l0 : AC := .seq (.reg [⟨some 7, .bin .lss (.t 6) (.t 5), none⟩]) (
  .seq (.cond (.t 7) (
    .skip) (
    .exit 0)) (
  .seq (.block 1 (
    .seq (.reg [⟨some 8, .cp (.t 6), none⟩,
        ⟨some 4, .cp (.t 8), none⟩]) (
    .reg [⟨some 9, .tk 3, none⟩,
        ⟨some 10, .cp (.t 4), none⟩,
        ⟨some 11, .bin .rem (.t 10) (.c (.int .i64 16)), none⟩,
        ⟨some 12, .call 92 [.t 11, .c (.int .i64 0)], none⟩,
        ⟨some 13, .bs 4 [.t 12], none⟩,
        ⟨some 14, .app 4 32 (.t 9) (.t 13), none⟩,
        ⟨some 3, .tk 14, none⟩]))) (
  .reg [⟨some 15, .bin .add (.t 6) (.c (.int .i64 1)), none⟩,
      ⟨some 6, .cp (.t 15), none⟩])))
def a114 : AC := .seq (.reg [⟨some 2, .cp (.c (.sl .own 4 [])), none⟩]) (
  .seq (.reg [⟨some 3, .cp (.c (.sl .own 4 [])), none⟩]) (
  .seq (.seq (.reg [⟨some 5, .cp (.t 0), none⟩,
      ⟨some 6, .cp (.c (.int .i64 0)), none⟩]) (
  .block 0 (
    .loop [false, false, false, false, true, false, false, true, true, true, true, true, true, true, true, true] [] a114_l0))) (
  .seq (.reg [⟨some 16, .tk 3, none⟩,
      ⟨some 2, .tk 16, none⟩]) (
  .ret))))
def af114 : AFn := ⟨17, 0, [.t 2], a114⟩
theorem ak114 : chkF Try.prog 114 af114 = true := by kernel_rfl

-- f115 fingerpost/split.Most  boxes 0 notes []
def a115 : AC := .seq (.reg [⟨some 0, .cp (.c (.int .i64 0)), none⟩]) (
  .seq (.reg [⟨some 0, .cp (.c (.int .i64 6)), none⟩]) (
  .ret))
def af115 : AFn := ⟨1, 0, [.t 0], a115⟩
theorem ak115 : chkF Try.prog 115 af115 = true := by kernel_rfl

-- f116 fingerpost/split.pieces[fingerpost/api.Item]  boxes 0 notes []
def a116_l0 : AC := .seq (.seq (.reg [⟨some 6, .cp (.t 0), none⟩,
      ⟨some 7, .len (.t 6), none⟩,
      ⟨some 8, .cp (.t 1), none⟩,
      ⟨some 9, .bin .gtr (.t 7) (.t 8), none⟩]) (
  .cond (.t 9) (
    .skip) (
    .exit 0))) (
  .block 1 (
    .seq (.reg [⟨some 10, .tk 5, none⟩,
        ⟨some 11, .cp (.t 0), none⟩,
        ⟨some 12, .cp (.t 1), none⟩,
        ⟨some 13, .sub 4 (.t 11) none (some (.t 12)) none, none⟩,
        ⟨some 14, .call 133 [.t 13], none⟩,
        ⟨some 15, .bs 1 [.t 14], none⟩,
        ⟨some 16, .app 1 24 (.t 10) (.t 15), none⟩,
        ⟨some 5, .tk 16, none⟩]) (
    .reg [⟨some 17, .tk 0, none⟩,
        ⟨some 18, .cp (.t 1), none⟩,
        ⟨some 19, .sub 4 (.t 17) (some (.t 18)) none none, none⟩,
        ⟨some 0, .cp (.t 19), none⟩])))
def a116 : AC := .seq (.reg [⟨some 4, .cp (.c (.sl .own 1 [])), none⟩]) (
  .seq (.reg [⟨some 5, .cp (.c (.sl .own 1 [])), none⟩]) (
  .seq (.block 0 (
    .loop [false, false, false, false, false, false, true, true, true, true, true, true, true, true, true, true, true, true, true, true] [] a116_l0)) (
  .seq (.reg [⟨some 20, .tk 5, none⟩,
      ⟨some 21, .tk 0, none⟩,
      ⟨some 22, .call 133 [.t 21], none⟩,
      ⟨some 23, .bs 1 [.t 22], none⟩,
      ⟨some 24, .app 1 24 (.t 20) (.t 23), none⟩,
      ⟨some 4, .tk 24, none⟩]) (
  .ret))))
def af116 : AFn := ⟨25, 0, [.t 4], a116⟩
theorem ak116 : chkF Try.prog 116 af116 = true := by kernel_rfl

-- f117 slices.Concat[[]fingerpost/api.Item,fingerpost/api.Item]  boxes 0 notes ["Op.makeInterface 'makeInterface'", "Op.panic 'panic'"]
def a117_l0 : AC := .seq (.reg [⟨some 12, .bin .lss (.t 11) (.t 10), none⟩]) (
  .seq (.cond (.t 12) (
    .skip) (
    .exit 0)) (
  .seq (.block 1 (
    .seq (.reg [⟨some 13, .iaE 1 (.t 9) (.t 11), none⟩,
        ⟨some 14, .ld none (.t 13), none⟩,
        ⟨some 5, .tk 14, none⟩]) (
    .seq (.reg [⟨some 15, .cp (.t 3), none⟩,
        ⟨some 16, .tk 5, none⟩,
        ⟨some 17, .len (.t 16), none⟩,
        ⟨some 18, .bin .add (.t 15) (.t 17), none⟩,
        ⟨some 3, .cp (.t 18), none⟩]) (
    .seq (.reg [⟨some 19, .cp (.t 3), none⟩,
        ⟨some 20, .bin .lss (.t 19) (.c (.int .i64 0)), none⟩]) (
    .cond (.t 20) (
      .reg [⟨some 21, .bad, none⟩,
          ⟨none, .bad, none⟩]) (
      .skip)))))) (
  .reg [⟨some 22, .bin .add (.t 11) (.c (.int .i64 1)), none⟩,
      ⟨some 11, .cp (.t 22), none⟩])))
def a117_l1 : AC := .seq (.reg [⟨some 28, .bin .lss (.t 27) (.t 26), none⟩]) (
  .seq (.cond (.t 28) (
    .skip) (
    .exit 2)) (
  .seq (.block 3 (
    .seq (.reg [⟨some 29, .iaE 1 (.t 25) (.t 27), none⟩,
        ⟨some 30, .ld none (.t 29), none⟩,
        ⟨some 8, .tk 30, none⟩]) (
    .reg [⟨some 31, .tk 6, none⟩,
        ⟨some 32, .tk 8, none⟩,
        ⟨some 33, .app 4 32 (.t 31) (.t 32), none⟩,
        ⟨some 6, .tk 33, none⟩]))) (
  .reg [⟨some 34, .bin .add (.t 27) (.c (.int .i64 1)), none⟩,
      ⟨some 27, .cp (.t 34), none⟩])))
def a117 : AC := .seq (.reg [⟨some 2, .cp (.c (.sl .own 4 [])), none⟩]) (
  .seq (.reg [⟨some 3, .cp (.c (.int .i64 0)), none⟩]) (
  .seq (.seq (.reg [⟨some 9, .cp (.t 0), none⟩,
      ⟨some 10, .len (.t 9), none⟩,
      ⟨some 11, .cp (.c (.int .i64 0)), none⟩]) (
  .block 0 (
    .loop [false, false, false, false, false, true, false, false, false, false, false, false, true, true, true, true, true, true, true, true, true, true, true] [] a117_l0))) (
  .seq (.reg [⟨some 23, .cp (.t 3), none⟩,
      ⟨some 24, .callN 4 134 [.t 23], none⟩,
      ⟨some 6, .tk 24, none⟩]) (
  .seq (.seq (.reg [⟨some 25, .tk 0, none⟩,
      ⟨some 26, .len (.t 25), none⟩,
      ⟨some 27, .cp (.c (.int .i64 0)), none⟩]) (
  .block 2 (
    .loop [false, false, false, false, false, false, false, false, true, false, false, false, false, false, false, false, false, false, false, false, false, false, false, false, false, false, false, false, true, true, true, true, true, true, true] [] a117_l1))) (
  .seq (.reg [⟨some 35, .tk 6, none⟩,
      ⟨some 2, .tk 35, none⟩]) (
  .ret))))))
def af117 : AFn := ⟨36, 0, [.t 2], a117⟩
theorem ak117 : chkF Try.prog 117 af117 = true := by kernel_rfl

-- f133 slices.Clone[[]fingerpost/api.Item,fingerpost/api.Item]  boxes 0 notes []
def a133 : AC := .seq (.reg [⟨some 2, .cp (.c (.sl .own 4 [])), none⟩]) (
  .seq (.seq (.reg [⟨some 3, .cp (.t 0), none⟩,
      ⟨some 4, .nilQ false (.t 3), none⟩]) (
  .cond (.t 4) (
    .seq (.reg [⟨some 2, .cp (.c (.sl .own 4 [])), none⟩]) (
    .ret)) (
    .skip))) (
  .seq (.reg [⟨some 5, .bs 4 [], none⟩,
      ⟨some 6, .tk 0, none⟩,
      ⟨some 7, .app 4 32 (.t 5) (.t 6), none⟩,
      ⟨some 2, .tk 7, none⟩]) (
  .ret)))
def af133 : AFn := ⟨8, 0, [.t 2], a133⟩
theorem ak133 : chkF Try.prog 133 af133 = true := by kernel_rfl

end Go.Proofs.Ytkcdeefnkbbacaa

/- The functions as data, and that they are the program's. -/
import Derived.Test.YtgdkpiabahpleaaAwN
set_option maxRecDepth 100000
namespace Go.Proofs.Ytgdkpiabahpleaa
open Go.RowKit
-- f3 fingerpost/fingerpostlaw12.RingMoves  boxes 9 notes []
def a3_l0 : AC := .seq (.reg [⟨some 44, .bin .lss (.t 43) (.t 42), none⟩]) (
  .seq (.cond (.t 44) (
    .skip) (
    .exit 0)) (
  .seq (.block 1 (
    .seq (.reg [⟨some 45, .iaE 1 (.t 41) (.t 43), none⟩,
        ⟨some 46, .ld none (.t 45), none⟩,
        ⟨some 8, .cp (.t 46), none⟩]) (
    .seq (.reg [⟨some 47, .cp (.t 8), none⟩,
        ⟨some 48, .lenS (.t 47), none⟩,
        ⟨some 49, .bin .gtr (.t 48) (.c (.int .i64 300)), none⟩]) (
    .cond (.t 49) (
      .seq (.reg [⟨some 50, .call 4 [], none⟩,
          ⟨some 6, .cp (.t 50), none⟩]) (
      .ret)) (
      .skip))))) (
  .reg [⟨some 51, .bin .add (.t 43) (.c (.int .i64 1)), none⟩,
      ⟨some 43, .cp (.t 51), none⟩])))
def a3_l1 : AC := .seq (.reg [⟨some 167, .bin .lss (.t 166) (.t 165), none⟩]) (
  .seq (.cond (.t 167) (
    .skip) (
    .exit 2)) (
  .seq (.block 3 (
    .seq (.reg [⟨some 168, .cp (.t 166), none⟩,
        ⟨some 25, .cp (.t 168), none⟩]) (
    .seq (.drw [⟨some 169, .fa 1 (.t 20), none⟩,
        ⟨some 170, .ld none (.t 169), none⟩,
        ⟨some 171, .cp (.t 1), none⟩,
        ⟨some 172, .len (.t 171), none⟩,
        ⟨some 173, .cp (.t 25), none⟩,
        ⟨some 174, .bin .add (.t 172) (.t 173), none⟩,
        ⟨some 175, .iaE 1 (.t 170) (.t 174), none⟩,
        ⟨some 176, .ld none (.t 175), none⟩,
        ⟨some 177, .cp (.t 0), none⟩,
        ⟨some 178, .cp (.t 25), none⟩,
        ⟨some 179, .iaE 1 (.t 177) (.t 178), none⟩,
        ⟨some 180, .ld none (.t 179), none⟩,
        ⟨some 181, .bin .neq (.t 176) (.t 180), none⟩] []) (
    .cond (.t 181) (
      .seq (.reg [⟨some 6, .cp (.c (.bool false)), none⟩]) (
      .ret)) (
      .skip))))) (
  .reg [⟨some 182, .bin .add (.t 166) (.c (.int .i64 1)), none⟩,
      ⟨some 166, .cp (.t 182), none⟩])))
def a3_l2 : AC := .seq (.reg [⟨some 187, .bin .lss (.t 186) (.t 185), none⟩]) (
  .seq (.cond (.t 187) (
    .skip) (
    .exit 4)) (
  .seq (.block 5 (
    .seq (.reg [⟨some 188, .cp (.t 186), none⟩,
        ⟨some 189, .iaE 1 (.t 184) (.t 186), none⟩,
        ⟨some 190, .ld none (.t 189), none⟩,
        ⟨some 26, .cp (.t 188), none⟩,
        ⟨some 27, .cp (.t 190), none⟩]) (
    .seq (.reg [⟨some 191, .ld (some 2) (.t 15), none⟩,
        ⟨some 192, .cp (.t 27), none⟩,
        ⟨some 193, .call 12 [.t 191, .t 192], none⟩,
        ⟨some 194, .cp (.t 26), none⟩,
        ⟨some 195, .bin .neq (.t 193) (.t 194), none⟩,
        ⟨some 196, .cp (.t 195), none⟩,
        ⟨some 197, .ld (some 2) (.t 9), some (196, false)⟩,
        ⟨some 198, .cp (.t 27), some (196, false)⟩,
        ⟨some 199, .call 12 [.t 197, .t 198], some (196, false)⟩,
        ⟨some 200, .bin .lss (.t 199) (.c (.int .i64 0)), some (196, false)⟩,
        ⟨some 201, .pick (.t 196) (.c (.bool true)) (.t 200), none⟩]) (
    .cond (.t 201) (
      .seq (.reg [⟨some 6, .cp (.c (.bool false)), none⟩]) (
      .ret)) (
      .skip))))) (
  .reg [⟨some 202, .bin .add (.t 186) (.c (.int .i64 1)), none⟩,
      ⟨some 186, .cp (.t 202), none⟩])))
def a3 : AC := .seq (.reg [⟨some 5, .box 0 3 (.t 2), none⟩,
      ⟨some 6, .cp (.c (.bool false)), none⟩]) (
  .seq (.seq (.reg [⟨some 28, .cp (.t 0), none⟩,
      ⟨some 29, .len (.t 28), none⟩,
      ⟨some 30, .bin .gtr (.t 29) (.c (.int .i64 60)), none⟩,
      ⟨some 31, .cp (.t 30), none⟩,
      ⟨some 32, .cp (.t 1), some (31, false)⟩,
      ⟨some 33, .len (.t 32), some (31, false)⟩,
      ⟨some 34, .bin .gtr (.t 33) (.c (.int .i64 60)), some (31, false)⟩,
      ⟨some 35, .pick (.t 31) (.c (.bool true)) (.t 34), none⟩]) (
  .cond (.t 35) (
    .seq (.reg [⟨some 36, .call 4 [], none⟩,
        ⟨some 6, .cp (.t 36), none⟩]) (
    .ret)) (
    .skip))) (
  .seq (.seq (.reg [⟨some 37, .bs 1 [], none⟩,
      ⟨some 38, .cp (.t 0), none⟩,
      ⟨some 39, .app 1 16 (.t 37) (.t 38), none⟩,
      ⟨some 40, .cp (.t 1), none⟩,
      ⟨some 41, .app 1 16 (.t 39) (.t 40), none⟩,
      ⟨some 42, .len (.t 41), none⟩,
      ⟨some 43, .cp (.c (.int .i64 0)), none⟩]) (
  .block 0 (
    .loop [false, false, true, true, true, false, true, true, true, true, true, true, true, true, true, true, true, true, true, true, true, true, true, true, true, true, true, true, true, true, true, true, true, true, true, true, true, true, true, true, true, false, false, false, true, true, true, true, true, true, true, true, true, true, true, true, true, true, true, true, true, true, true, true, true, true, true, true, true, true, true, true, true, true, true, true, true, true, true, true, true, true, true, true, true, true, true, true, true, true, true, true, true, true, true, true, true, true, true, true, true, true, true, true, true, true, true, true, true, true, true, true, true, true, true, true, true, true, true, true, true, true, true, true, true, true, true, true, true, true, true, true, true, true, true, true, true, true, true, true, true, true, true, true, true, true, true, true, true, true, true, true, true, true, true, true, true, true, true, true, true, true, true, true, true, true, true, true, true, true, true, true, true, true, true, true, true, true, true, true, true, true, true, true, true, true, true, true, true, true, true, true, true, true, true, true, true, true, true, true, true, true, true, true] [] a3_l0))) (
  .seq (.drw [⟨some 52, .ia 1 (some 3) (.t 5) (.c (.int .i64 0)), none⟩,
      ⟨some 53, .ld none (.t 52), none⟩,
      ⟨some 54, .cp (.t 0), none⟩,
      ⟨some 55, .bld [.int .i64 0, .sl .own 1 []] [(0, 1, .t 53), (1, 1, .t 54)], none⟩,
      ⟨some 56, .ia 1 (some 3) (.t 5) (.c (.int .i64 1)), none⟩,
      ⟨some 57, .ld none (.t 56), none⟩,
      ⟨some 58, .cp (.t 1), none⟩,
      ⟨some 59, .bld [.int .i64 0, .sl .own 1 []] [(0, 1, .t 57), (1, 1, .t 58)], none⟩,
      ⟨some 9, .alloc 1 2 [.int .i64 0, .sl .own 1 []], none⟩,
      ⟨some 10, .alloc 2 2 [.int .i64 0, .sl .own 1 []], none⟩,
      ⟨none, .st 2 (.t 9) (.t 55), none⟩,
      ⟨none, .st 2 (.t 10) (.t 59), none⟩] [(52, 9), (56, 9), (52, 10), (56, 10), (5, 9), (5, 10), (9, 10), (1000001, 1000002), (1000001, 52), (1000001, 56), (1000001, 5), (1000002, 52), (1000002, 56), (1000002, 5), (1000002, 9), (1000001, 10)]) (
  .seq (.reg [⟨some 61, .ld (some 2) (.t 9), none⟩,
      ⟨some 62, .ia 1 (some 3) (.t 5) (.c (.int .i64 2)), none⟩,
      ⟨some 63, .ld none (.t 62), none⟩,
      ⟨some 64, .call 5 [.t 61, .t 63], none⟩,
      ⟨some 60, .tk 64, none⟩,
      ⟨some 65, .ext (.t 60) 0, none⟩,
      ⟨some 66, .ext (.t 60) 1, none⟩,
      ⟨some 11, .cp (.t 65), none⟩,
      ⟨some 12, .cp (.t 66), none⟩]) (
  .seq (.reg [⟨some 68, .ld (some 2) (.t 9), none⟩,
      ⟨some 69, .ia 1 (some 3) (.t 5) (.c (.int .i64 2)), none⟩,
      ⟨some 70, .ld none (.t 69), none⟩,
      ⟨some 71, .call 6 [.t 68, .t 70], none⟩,
      ⟨some 67, .tk 71, none⟩,
      ⟨some 72, .ext (.t 67) 0, none⟩,
      ⟨some 73, .ext (.t 67) 1, none⟩,
      ⟨some 13, .cp (.t 72), none⟩,
      ⟨some 14, .cp (.t 73), none⟩]) (
  .seq (.reg [⟨some 75, .ld (some 2) (.t 9), none⟩,
      ⟨some 76, .call 7 [.t 75], none⟩,
      ⟨some 74, .tk 76, none⟩,
      ⟨some 77, .ext (.t 74) 0, none⟩,
      ⟨some 78, .ext (.t 74) 1, none⟩,
      ⟨some 15, .alloc 3 2 [.int .i64 0, .sl .own 1 []], none⟩,
      ⟨none, .st 2 (.t 15) (.t 77), none⟩,
      ⟨some 16, .cp (.t 78), none⟩]) (
  .seq (.reg [⟨some 80, .ld (some 2) (.t 9), none⟩,
      ⟨some 81, .call 8 [.t 80], none⟩,
      ⟨some 79, .tk 81, none⟩,
      ⟨some 82, .ext (.t 79) 0, none⟩,
      ⟨some 83, .ext (.t 79) 1, none⟩,
      ⟨some 17, .alloc 4 2 [.int .i64 0, .sl .own 1 []], none⟩,
      ⟨none, .st 2 (.t 17) (.t 82), none⟩,
      ⟨some 18, .cp (.t 83), none⟩]) (
  .seq (.reg [⟨some 85, .ld (some 2) (.t 9), none⟩,
      ⟨some 86, .ld (some 2) (.t 10), none⟩,
      ⟨some 87, .ia 1 (some 3) (.t 5) (.c (.int .i64 2)), none⟩,
      ⟨some 88, .ld none (.t 87), none⟩,
      ⟨some 89, .call 9 [.t 85, .t 86, .t 88], none⟩,
      ⟨some 84, .tk 89, none⟩,
      ⟨some 90, .ext (.t 84) 0, none⟩,
      ⟨some 91, .ext (.t 84) 1, none⟩,
      ⟨some 92, .ext (.t 84) 2, none⟩,
      ⟨some 19, .alloc 5 2 [.int .i64 0, .sl .own 1 []], none⟩,
      ⟨some 20, .alloc 6 2 [.int .i64 0, .sl .own 1 []], none⟩,
      ⟨none, .st 2 (.t 19) (.t 90), none⟩,
      ⟨none, .st 2 (.t 20) (.t 91), none⟩,
      ⟨some 21, .cp (.t 92), none⟩]) (
  .seq (.reg [⟨some 94, .ld (some 2) (.t 9), none⟩,
      ⟨some 95, .ld (some 2) (.t 10), none⟩,
      ⟨some 96, .ia 1 (some 3) (.t 5) (.c (.int .i64 2)), none⟩,
      ⟨some 97, .ld none (.t 96), none⟩,
      ⟨some 98, .call 10 [.t 94, .t 95, .t 97], none⟩,
      ⟨some 93, .tk 98, none⟩,
      ⟨some 99, .ext (.t 93) 0, none⟩,
      ⟨some 100, .ext (.t 93) 1, none⟩,
      ⟨some 101, .ext (.t 93) 2, none⟩,
      ⟨some 22, .alloc 7 2 [.int .i64 0, .sl .own 1 []], none⟩,
      ⟨some 23, .alloc 8 2 [.int .i64 0, .sl .own 1 []], none⟩,
      ⟨none, .st 2 (.t 22) (.t 99), none⟩,
      ⟨none, .st 2 (.t 23) (.t 100), none⟩,
      ⟨some 24, .cp (.t 101), none⟩]) (
  .seq (.seq (.drw [⟨some 102, .cp (.t 11), none⟩,
      ⟨some 103, .cp (.t 13), none⟩,
      ⟨some 104, .bin .neq (.t 102) (.t 103), none⟩,
      ⟨some 105, .cp (.t 104), none⟩,
      ⟨some 106, .cp (.t 12), some (105, false)⟩,
      ⟨some 107, .cp (.t 14), some (105, false)⟩,
      ⟨some 108, .eqB true (.t 106) (.t 107), some (105, false)⟩,
      ⟨some 109, .pick (.t 105) (.c (.bool true)) (.t 108), none⟩,
      ⟨some 110, .cp (.t 109), none⟩,
      ⟨some 111, .ld (some 2) (.t 15), some (110, false)⟩,
      ⟨some 112, .ld (some 2) (.t 17), some (110, false)⟩,
      ⟨some 113, .call 11 [.t 111, .t 112], some (110, false)⟩,
      ⟨some 114, .un .not (.t 113), some (110, false)⟩,
      ⟨some 115, .pick (.t 110) (.c (.bool true)) (.t 114), none⟩,
      ⟨some 116, .cp (.t 115), none⟩,
      ⟨some 117, .cp (.t 16), some (116, false)⟩,
      ⟨some 118, .cp (.t 18), some (116, false)⟩,
      ⟨some 119, .bin .neq (.t 117) (.t 118), some (116, false)⟩,
      ⟨some 120, .pick (.t 116) (.c (.bool true)) (.t 119), none⟩,
      ⟨some 121, .cp (.t 120), none⟩,
      ⟨some 122, .ld (some 2) (.t 19), some (121, false)⟩,
      ⟨some 123, .ld (some 2) (.t 22), some (121, false)⟩,
      ⟨some 124, .call 11 [.t 122, .t 123], some (121, false)⟩,
      ⟨some 125, .un .not (.t 124), some (121, false)⟩,
      ⟨some 126, .pick (.t 121) (.c (.bool true)) (.t 125), none⟩,
      ⟨some 127, .cp (.t 126), none⟩,
      ⟨some 128, .ld (some 2) (.t 20), some (127, false)⟩,
      ⟨some 129, .ld (some 2) (.t 23), some (127, false)⟩,
      ⟨some 130, .call 11 [.t 128, .t 129], some (127, false)⟩,
      ⟨some 131, .un .not (.t 130), some (127, false)⟩,
      ⟨some 132, .pick (.t 127) (.c (.bool true)) (.t 131), none⟩,
      ⟨some 133, .cp (.t 132), none⟩,
      ⟨some 134, .cp (.t 21), some (133, false)⟩,
      ⟨some 135, .cp (.t 24), some (133, false)⟩,
      ⟨some 136, .bin .neq (.t 134) (.t 135), some (133, false)⟩,
      ⟨some 137, .pick (.t 133) (.c (.bool true)) (.t 136), none⟩,
      ⟨some 138, .cp (.t 137), none⟩,
      ⟨some 139, .ld (some 2) (.t 9), some (138, false)⟩,
      ⟨some 140, .cp (.t 11), some (138, false)⟩,
      ⟨some 141, .call 12 [.t 139, .t 140], some (138, false)⟩,
      ⟨some 142, .ld (some 2) (.t 9), some (138, false)⟩,
      ⟨some 143, .cp (.t 11), some (138, false)⟩,
      ⟨some 144, .call 13 [.t 142, .t 143], some (138, false)⟩,
      ⟨some 145, .bin .neq (.t 141) (.t 144), some (138, false)⟩,
      ⟨some 146, .pick (.t 138) (.c (.bool true)) (.t 145), none⟩] []) (
  .cond (.t 146) (
    .seq (.reg [⟨some 6, .cp (.c (.bool false)), none⟩]) (
    .ret)) (
    .skip))) (
  .seq (.seq (.reg [⟨some 147, .fa 1 (.t 19), none⟩,
      ⟨some 148, .ld none (.t 147), none⟩,
      ⟨some 149, .len (.t 148), none⟩,
      ⟨some 150, .cp (.t 21), none⟩,
      ⟨some 151, .bin .add (.t 149) (.t 150), none⟩,
      ⟨some 152, .cp (.t 0), none⟩,
      ⟨some 153, .len (.t 152), none⟩,
      ⟨some 154, .bin .neq (.t 151) (.t 153), none⟩,
      ⟨some 155, .cp (.t 154), none⟩,
      ⟨some 156, .fa 1 (.t 20), some (155, false)⟩,
      ⟨some 157, .ld none (.t 156), some (155, false)⟩,
      ⟨some 158, .len (.t 157), some (155, false)⟩,
      ⟨some 159, .cp (.t 1), some (155, false)⟩,
      ⟨some 160, .len (.t 159), some (155, false)⟩,
      ⟨some 161, .cp (.t 21), some (155, false)⟩,
      ⟨some 162, .bin .add (.t 160) (.t 161), some (155, false)⟩,
      ⟨some 163, .bin .neq (.t 158) (.t 162), some (155, false)⟩,
      ⟨some 164, .pick (.t 155) (.c (.bool true)) (.t 163), none⟩]) (
  .cond (.t 164) (
    .seq (.reg [⟨some 6, .cp (.c (.bool false)), none⟩]) (
    .ret)) (
    .skip))) (
  .seq (.seq (.reg [⟨some 165, .cp (.t 21), none⟩,
      ⟨some 166, .cp (.c (.int .i64 0)), none⟩]) (
  .block 2 (
    .loop [false, false, true, true, true, true, true, true, true, false, true, true, true, true, true, false, true, true, true, true, false, true, true, true, true, true, true, true, true, true, true, true, true, true, true, true, true, true, true, true, true, true, true, true, true, true, true, true, true, true, true, true, true, true, true, true, true, true, true, true, true, true, true, true, true, true, true, true, true, true, true, true, true, true, true, true, true, true, true, true, true, true, true, true, true, true, true, true, true, true, true, true, true, true, true, true, true, true, true, true, true, true, true, true, true, true, true, true, true, true, true, true, true, true, true, true, true, true, true, true, true, true, true, true, true, true, true, true, true, true, true, true, true, true, true, true, true, true, true, true, true, true, true, true, true, true, true, true, true, true, true, true, true, true, true, true, true, true, true, true, true, true, true, true, true, false, false, true, true, true, true, true, true, true, true, true, true, true, true, true, true, true, true, true, true, true, true, true, true, true, true, true, true, true, true, true, true, true, true, true, true, true, true, true] [] a3_l1))) (
  .seq (.seq (.reg [⟨some 183, .fa 1 (.t 15), none⟩,
      ⟨some 184, .ld none (.t 183), none⟩,
      ⟨some 185, .len (.t 184), none⟩,
      ⟨some 186, .cp (.c (.int .i64 0)), none⟩]) (
  .block 4 (
    .loop [true, true, true, true, true, true, true, true, true, false, true, true, true, true, true, false, true, true, true, true, true, true, true, true, true, true, true, true, true, true, true, true, true, true, true, true, true, true, true, true, true, true, true, true, true, true, true, true, true, true, true, true, true, true, true, true, true, true, true, true, true, true, true, true, true, true, true, true, true, true, true, true, true, true, true, true, true, true, true, true, true, true, true, true, true, true, true, true, true, true, true, true, true, true, true, true, true, true, true, true, true, true, true, true, true, true, true, true, true, true, true, true, true, true, true, true, true, true, true, true, true, true, true, true, true, true, true, true, true, true, true, true, true, true, true, true, true, true, true, true, true, true, true, true, true, true, true, true, true, true, true, true, true, true, true, true, true, true, true, true, true, true, true, true, true, true, true, true, true, true, true, true, true, true, true, true, true, true, true, true, true, true, true, true, false, false, false, true, true, true, true, true, true, true, true, true, true, true, true, true, true, true, true, true] [] a3_l2))) (
  .seq (.reg [⟨some 203, .call 4 [], none⟩,
      ⟨some 6, .cp (.t 203), none⟩]) (
  .ret)))))))))))))))
def af3 : AFn := ⟨204, 9, [.t 6], a3⟩
theorem ak3 : chkF Try.prog 3 af3 = true := by kernel_rfl

-- f4 fingerpost/fingerpostlaw12.awake  boxes 7 notes []
def a4 : AC := .seq (.reg [⟨some 0, .cp (.c (.bool false)), none⟩]) (
  .seq (.reg [⟨some 18, .call 14 [.c (.int .i64 2)], none⟩,
      ⟨some 17, .tk 18, none⟩,
      ⟨some 19, .ext (.t 17) 0, none⟩,
      ⟨some 20, .ext (.t 17) 1, none⟩,
      ⟨some 1, .alloc 0 2 [.int .i64 0, .sl .own 1 []], none⟩,
      ⟨none, .st 2 (.t 1) (.t 19), none⟩,
      ⟨some 2, .cp (.t 20), none⟩]) (
  .seq (.reg [⟨some 22, .ld (some 2) (.t 1), none⟩,
      ⟨some 23, .call 15 [.t 22, .c (.str [97])], none⟩,
      ⟨some 21, .tk 23, none⟩,
      ⟨some 24, .ext (.t 21) 0, none⟩,
      ⟨some 25, .ext (.t 21) 1, none⟩,
      ⟨none, .st 2 (.t 1) (.t 24), none⟩]) (
  .seq (.reg [⟨some 27, .ld (some 2) (.t 1), none⟩,
      ⟨some 28, .call 15 [.t 27, .c (.str [98])], none⟩,
      ⟨some 26, .tk 28, none⟩,
      ⟨some 29, .ext (.t 26) 0, none⟩,
      ⟨some 30, .ext (.t 26) 1, none⟩,
      ⟨none, .st 2 (.t 1) (.t 29), none⟩]) (
  .seq (.reg [⟨some 32, .ld (some 2) (.t 1), none⟩,
      ⟨some 33, .call 15 [.t 32, .c (.str [99])], none⟩,
      ⟨some 31, .tk 33, none⟩,
      ⟨some 34, .ext (.t 31) 0, none⟩,
      ⟨some 35, .ext (.t 31) 1, none⟩,
      ⟨some 3, .alloc 1 2 [.int .i64 0, .sl .own 1 []], none⟩,
      ⟨none, .st 2 (.t 3) (.t 34), none⟩,
      ⟨some 4, .cp (.t 35), none⟩]) (
  .seq (.reg [⟨some 37, .ld (some 2) (.t 1), none⟩,
      ⟨some 38, .call 16 [.t 37, .c (.int .i64 1)], none⟩,
      ⟨some 36, .tk 38, none⟩,
      ⟨some 39, .ext (.t 36) 0, none⟩,
      ⟨some 40, .ext (.t 36) 1, none⟩,
      ⟨some 5, .alloc 2 2 [.int .i64 0, .sl .own 1 []], none⟩,
      ⟨none, .st 2 (.t 5) (.t 39), none⟩,
      ⟨some 6, .cp (.t 40), none⟩]) (
  .seq (.reg [⟨some 42, .ld (some 2) (.t 1), none⟩,
      ⟨some 43, .call 17 [.t 42], none⟩,
      ⟨some 41, .tk 43, none⟩,
      ⟨some 44, .ext (.t 41) 0, none⟩,
      ⟨some 45, .ext (.t 41) 1, none⟩,
      ⟨some 46, .ext (.t 41) 2, none⟩,
      ⟨some 7, .alloc 3 2 [.int .i64 0, .sl .own 1 []], none⟩,
      ⟨none, .st 2 (.t 7) (.t 44), none⟩,
      ⟨some 8, .cp (.t 45), none⟩,
      ⟨some 9, .cp (.t 46), none⟩]) (
  .seq (.reg [⟨some 48, .bld [.int .i64 0, .sl .own 1 []] [(0, 1, .c (.int .i64 1))], none⟩,
      ⟨some 49, .call 17 [.t 48], none⟩,
      ⟨some 47, .tk 49, none⟩,
      ⟨some 50, .ext (.t 47) 0, none⟩,
      ⟨some 51, .ext (.t 47) 1, none⟩,
      ⟨some 52, .ext (.t 47) 2, none⟩,
      ⟨some 10, .alloc 4 2 [.int .i64 0, .sl .own 1 []], none⟩,
      ⟨none, .st 2 (.t 10) (.t 50), none⟩,
      ⟨some 11, .cp (.t 51), none⟩,
      ⟨some 12, .cp (.t 52), none⟩]) (
  .seq (.reg [⟨some 54, .call 14 [.c (.int .i64 0)], none⟩,
      ⟨some 53, .tk 54, none⟩,
      ⟨some 55, .ext (.t 53) 0, none⟩,
      ⟨some 56, .ext (.t 53) 1, none⟩,
      ⟨some 13, .alloc 5 2 [.int .i64 0, .sl .own 1 []], none⟩,
      ⟨none, .st 2 (.t 13) (.t 55), none⟩,
      ⟨some 14, .cp (.t 56), none⟩]) (
  .seq (.reg [⟨some 58, .ld (some 2) (.t 1), none⟩,
      ⟨some 59, .call 16 [.t 58, .c (.int .i64 2)], none⟩,
      ⟨some 57, .tk 59, none⟩,
      ⟨some 60, .ext (.t 57) 0, none⟩,
      ⟨some 61, .ext (.t 57) 1, none⟩,
      ⟨some 15, .alloc 6 2 [.int .i64 0, .sl .own 1 []], none⟩,
      ⟨none, .st 2 (.t 15) (.t 60), none⟩,
      ⟨some 16, .cp (.t 61), none⟩]) (
  .seq (.seq (.reg [⟨some 62, .fa 1 (.t 5), none⟩,
      ⟨some 63, .ld none (.t 62), none⟩,
      ⟨some 64, .len (.t 63), none⟩,
      ⟨some 65, .bin .neq (.t 64) (.c (.int .i64 1)), none⟩,
      ⟨some 66, .cp (.t 65), none⟩,
      ⟨some 67, .fa 1 (.t 7), some (66, false)⟩,
      ⟨some 68, .ld none (.t 67), some (66, false)⟩,
      ⟨some 69, .len (.t 68), some (66, false)⟩,
      ⟨some 70, .bin .neq (.t 69) (.c (.int .i64 1)), some (66, false)⟩,
      ⟨some 71, .pick (.t 66) (.c (.bool true)) (.t 70), none⟩]) (
  .cond (.t 71) (
    .seq (.reg [⟨some 0, .cp (.c (.bool false)), none⟩]) (
    .ret)) (
    .skip))) (
  .seq (.reg [⟨some 72, .cp (.t 2), none⟩,
      ⟨some 73, .bin .eql (.t 72) (.c (.int .i64 0)), none⟩,
      ⟨some 74, .cp (.t 73), none⟩,
      ⟨some 75, .cp (.t 4), some (74, true)⟩,
      ⟨some 76, .bin .eql (.t 75) (.c (.int .i64 8)), some (74, true)⟩,
      ⟨some 77, .pick (.t 74) (.t 76) (.c (.bool false)), none⟩,
      ⟨some 78, .cp (.t 77), none⟩,
      ⟨some 79, .cp (.t 6), some (78, true)⟩,
      ⟨some 80, .bin .eql (.t 79) (.c (.int .i64 0)), some (78, true)⟩,
      ⟨some 81, .pick (.t 78) (.t 80) (.c (.bool false)), none⟩,
      ⟨some 82, .cp (.t 81), none⟩,
      ⟨some 83, .fa 1 (.t 5), some (82, true)⟩,
      ⟨some 84, .ld none (.t 83), some (82, true)⟩,
      ⟨some 85, .iaE 1 (.t 84) (.c (.int .i64 0)), some (82, true)⟩,
      ⟨some 86, .ld none (.t 85), some (82, true)⟩,
      ⟨some 87, .bin .eql (.t 86) (.c (.str [97])), some (82, true)⟩,
      ⟨some 88, .pick (.t 82) (.t 87) (.c (.bool false)), none⟩,
      ⟨some 89, .cp (.t 88), none⟩,
      ⟨some 90, .cp (.t 8), some (89, true)⟩,
      ⟨some 91, .bin .eql (.t 90) (.c (.str [97])), some (89, true)⟩,
      ⟨some 92, .pick (.t 89) (.t 91) (.c (.bool false)), none⟩,
      ⟨some 93, .cp (.t 92), none⟩,
      ⟨some 94, .cp (.t 9), some (93, true)⟩,
      ⟨some 95, .bin .eql (.t 94) (.c (.int .i64 0)), some (93, true)⟩,
      ⟨some 96, .pick (.t 93) (.t 95) (.c (.bool false)), none⟩,
      ⟨some 97, .cp (.t 96), none⟩,
      ⟨some 98, .fa 1 (.t 7), some (97, true)⟩,
      ⟨some 99, .ld none (.t 98), some (97, true)⟩,
      ⟨some 100, .iaE 1 (.t 99) (.c (.int .i64 0)), some (97, true)⟩,
      ⟨some 101, .ld none (.t 100), some (97, true)⟩,
      ⟨some 102, .bin .eql (.t 101) (.c (.str [98])), some (97, true)⟩,
      ⟨some 103, .pick (.t 97) (.t 102) (.c (.bool false)), none⟩,
      ⟨some 104, .cp (.t 103), none⟩,
      ⟨some 105, .cp (.t 12), some (104, true)⟩,
      ⟨some 106, .bin .eql (.t 105) (.c (.int .i64 9)), some (104, true)⟩,
      ⟨some 107, .pick (.t 104) (.t 106) (.c (.bool false)), none⟩,
      ⟨some 108, .cp (.t 107), none⟩,
      ⟨some 109, .cp (.t 14), some (108, true)⟩,
      ⟨some 110, .bin .eql (.t 109) (.c (.int .i64 1)), some (108, true)⟩,
      ⟨some 111, .pick (.t 108) (.t 110) (.c (.bool false)), none⟩,
      ⟨some 112, .cp (.t 111), none⟩,
      ⟨some 113, .cp (.t 16), some (112, true)⟩,
      ⟨some 114, .bin .eql (.t 113) (.c (.int .i64 9)), some (112, true)⟩,
      ⟨some 115, .pick (.t 112) (.t 114) (.c (.bool false)), none⟩,
      ⟨some 116, .cp (.t 115), none⟩,
      ⟨some 117, .ld (some 2) (.t 1), some (116, true)⟩,
      ⟨some 118, .call 18 [.t 117], some (116, true)⟩,
      ⟨some 119, .bin .eql (.t 118) (.c (.int .i64 2)), some (116, true)⟩,
      ⟨some 120, .pick (.t 116) (.t 119) (.c (.bool false)), none⟩,
      ⟨some 121, .cp (.t 120), none⟩,
      ⟨some 122, .ld (some 2) (.t 1), some (121, true)⟩,
      ⟨some 123, .ld (some 2) (.t 1), some (121, true)⟩,
      ⟨some 124, .call 19 [.t 122, .t 123], some (121, true)⟩,
      ⟨some 125, .pick (.t 121) (.t 124) (.c (.bool false)), none⟩,
      ⟨some 126, .cp (.t 125), none⟩,
      ⟨some 127, .ld (some 2) (.t 1), some (126, true)⟩,
      ⟨some 128, .ld (some 2) (.t 7), some (126, true)⟩,
      ⟨some 129, .call 19 [.t 127, .t 128], some (126, true)⟩,
      ⟨some 130, .un .not (.t 129), some (126, true)⟩,
      ⟨some 131, .pick (.t 126) (.t 130) (.c (.bool false)), none⟩,
      ⟨some 0, .cp (.t 131), none⟩]) (
  .ret))))))))))))
def af4 : AFn := ⟨132, 7, [.t 0], a4⟩
theorem ak4 : chkF Try.prog 4 af4 = true := by kernel_rfl

-- f5 fingerpost/ring.Peek  boxes 1 notes []
def a5 : AC := .seq (.reg [⟨some 2, .box 0 2 (.t 0), none⟩,
      ⟨some 4, .cp (.c (.str [])), none⟩,
      ⟨some 5, .cp (.c (.bool false)), none⟩]) (
  .seq (.seq (.reg [⟨some 6, .cp (.t 1), none⟩,
      ⟨some 7, .bin .lss (.t 6) (.c (.int .i64 0)), none⟩,
      ⟨some 8, .cp (.t 7), none⟩,
      ⟨some 9, .cp (.t 1), some (8, false)⟩,
      ⟨some 10, .fa 1 (.t 2), some (8, false)⟩,
      ⟨some 11, .ld none (.t 10), some (8, false)⟩,
      ⟨some 12, .len (.t 11), some (8, false)⟩,
      ⟨some 13, .bin .geq (.t 9) (.t 12), some (8, false)⟩,
      ⟨some 14, .pick (.t 8) (.c (.bool true)) (.t 13), none⟩]) (
  .cond (.t 14) (
    .seq (.reg [⟨some 4, .cp (.c (.str [])), none⟩,
        ⟨some 5, .cp (.c (.bool false)), none⟩]) (
    .ret)) (
    .skip))) (
  .seq (.reg [⟨some 15, .fa 1 (.t 2), none⟩,
      ⟨some 16, .ld none (.t 15), none⟩,
      ⟨some 17, .cp (.t 1), none⟩,
      ⟨some 18, .iaE 1 (.t 16) (.t 17), none⟩,
      ⟨some 19, .ld none (.t 18), none⟩,
      ⟨some 4, .cp (.t 19), none⟩,
      ⟨some 5, .cp (.c (.bool true)), none⟩]) (
  .ret)))
def af5 : AFn := ⟨20, 1, [.t 4, .t 5], a5⟩
theorem ak5 : chkF Try.prog 5 af5 = true := by kernel_rfl

-- f6 fingerpost/fingerpostref12.Peek  boxes 1 notes []
def a6 : AC := .seq (.reg [⟨some 2, .box 0 2 (.t 0), none⟩,
      ⟨some 4, .cp (.c (.str [])), none⟩,
      ⟨some 5, .cp (.c (.bool false)), none⟩]) (
  .seq (.seq (.reg [⟨some 6, .cp (.t 1), none⟩,
      ⟨some 7, .bin .lss (.t 6) (.c (.int .i64 0)), none⟩,
      ⟨some 8, .cp (.t 7), none⟩,
      ⟨some 9, .cp (.t 1), some (8, false)⟩,
      ⟨some 10, .fa 1 (.t 2), some (8, false)⟩,
      ⟨some 11, .ld none (.t 10), some (8, false)⟩,
      ⟨some 12, .len (.t 11), some (8, false)⟩,
      ⟨some 13, .bin .geq (.t 9) (.t 12), some (8, false)⟩,
      ⟨some 14, .pick (.t 8) (.c (.bool true)) (.t 13), none⟩]) (
  .cond (.t 14) (
    .seq (.reg [⟨some 4, .cp (.c (.str [])), none⟩,
        ⟨some 5, .cp (.c (.bool false)), none⟩]) (
    .ret)) (
    .skip))) (
  .seq (.reg [⟨some 15, .fa 1 (.t 2), none⟩,
      ⟨some 16, .ld none (.t 15), none⟩,
      ⟨some 17, .cp (.t 1), none⟩,
      ⟨some 18, .iaE 1 (.t 16) (.t 17), none⟩,
      ⟨some 19, .ld none (.t 18), none⟩,
      ⟨some 4, .cp (.t 19), none⟩,
      ⟨some 5, .cp (.c (.bool true)), none⟩]) (
  .ret)))
def af6 : AFn := ⟨20, 1, [.t 4, .t 5], a6⟩
theorem ak6 : chkF Try.prog 6 af6 = true := by kernel_rfl

-- f7 fingerpost/ring.Only  boxes 3 notes ["Op.makeMap 'makeMap'", "Op.lookup 'lookup'", "Op.mapUpdate 'mapUpdate'", "Op.lookup 'lookup'"]
def a7_l0 : AC := .seq (.reg [⟨some 16, .bin .lss (.t 15) (.t 14), none⟩]) (
  .seq (.cond (.t 16) (
    .skip) (
    .exit 0)) (
  .seq (.block 1 (
    .seq (.reg [⟨some 17, .iaE 1 (.t 13) (.t 15), none⟩,
        ⟨some 18, .ld none (.t 17), none⟩,
        ⟨some 7, .cp (.t 18), none⟩]) (
    .seq (.minc 4 7 19 20 21 22) (
    .seq (.mget 4 7 23 24 25 26) (
    .cond (.t 26) (
      .reg [⟨some 27, .fa 1 (.t 5), none⟩,
          ⟨some 28, .ldt (.t 27), none⟩,
          ⟨some 29, .cp (.t 7), none⟩,
          ⟨some 30, .bs 1 [.t 29], none⟩,
          ⟨some 31, .app 1 16 (.t 28) (.t 30), none⟩,
          ⟨some 32, .fa 1 (.t 5), none⟩,
          ⟨none, .stt (.t 32) 31, none⟩]) (
      .skip)))))) (
  .reg [⟨some 33, .bin .add (.t 15) (.c (.int .i64 1)), none⟩,
      ⟨some 15, .cp (.t 33), none⟩])))
def a7 : AC := .seq (.reg [⟨some 1, .box 0 2 (.t 0), none⟩,
      ⟨some 2, .alloc 1 2 [.int .i64 0, .sl .own 1 []], none⟩,
      ⟨some 3, .cp (.c (.int .i64 0)), none⟩]) (
  .seq (.mkm 8 4) (
  .seq (.reg [⟨some 9, .fa 0 (.t 1), none⟩,
      ⟨some 10, .ld none (.t 9), none⟩,
      ⟨some 11, .bld [.int .i64 0, .sl .nil 1 []] [(0, 1, .t 10)], none⟩,
      ⟨some 5, .alloc 2 2 [.int .i64 0, .sl .own 1 []], none⟩,
      ⟨none, .st 2 (.t 5) (.t 11), none⟩]) (
  .seq (.seq (.reg [⟨some 12, .fa 1 (.t 1), none⟩,
      ⟨some 13, .ld none (.t 12), none⟩,
      ⟨some 14, .len (.t 13), none⟩,
      ⟨some 15, .cp (.c (.int .i64 0)), none⟩]) (
  .block 0 (
    .loop [false, false, false, false, false, false, false, true, false, false, false, false, false, false, false, false, true, true, true, true, true, true, true, true, true, true, true, true, true, true, true, true, true, true] [] a7_l0))) (
  .seq (.drw [⟨some 34, .ld (some 2) (.t 5), none⟩,
      ⟨some 35, .fa 1 (.t 1), none⟩,
      ⟨some 36, .ld none (.t 35), none⟩,
      ⟨some 37, .len (.t 36), none⟩,
      ⟨some 38, .fa 1 (.t 5), none⟩,
      ⟨some 39, .ld none (.t 38), none⟩,
      ⟨some 40, .len (.t 39), none⟩,
      ⟨some 41, .bin .sub (.t 37) (.t 40), none⟩,
      ⟨none, .st 2 (.t 2) (.t 34), none⟩,
      ⟨some 3, .cp (.t 41), none⟩] [(35, 2), (1, 2), (38, 2), (5, 2)]) (
  .ret)))))
def af7 : AFn := ⟨42, 3, [.c 2 (some 2), .t 3], a7⟩
theorem ak7 : chkF Try.prog 7 af7 = true := by kernel_rfl

-- f8 fingerpost/fingerpostref12.Only  boxes 2 notes []
def a8_l1 : AC := .seq (.reg [⟨some 21, .bin .lss (.t 20) (.t 19), none⟩]) (
  .seq (.cond (.t 21) (
    .skip) (
    .exit 2)) (
  .seq (.block 3 (
    .seq (.reg [⟨some 22, .iaE 1 (.t 18) (.t 20), none⟩,
        ⟨some 23, .ld none (.t 22), none⟩,
        ⟨some 9, .cp (.t 23), none⟩]) (
    .reg [⟨some 24, .cp (.t 7), none⟩,
        ⟨some 25, .cp (.t 24), none⟩,
        ⟨some 26, .cp (.t 6), some (25, false)⟩,
        ⟨some 27, .cp (.t 9), some (25, false)⟩,
        ⟨some 28, .bin .eql (.t 26) (.t 27), some (25, false)⟩,
        ⟨some 29, .pick (.t 25) (.c (.bool true)) (.t 28), none⟩,
        ⟨some 7, .cp (.t 29), none⟩]))) (
  .reg [⟨some 30, .bin .add (.t 20) (.c (.int .i64 1)), none⟩,
      ⟨some 20, .cp (.t 30), none⟩])))
def a8_l0 : AC := .seq (.reg [⟨some 15, .bin .lss (.t 14) (.t 13), none⟩]) (
  .seq (.cond (.t 15) (
    .skip) (
    .exit 0)) (
  .seq (.block 1 (
    .seq (.reg [⟨some 16, .iaE 1 (.t 12) (.t 14), none⟩,
        ⟨some 17, .ld none (.t 16), none⟩,
        ⟨some 6, .cp (.t 17), none⟩]) (
    .seq (.reg [⟨some 7, .cp (.c (.bool false)), none⟩]) (
    .seq (.seq (.reg [⟨some 18, .cp (.t 4), none⟩,
        ⟨some 19, .len (.t 18), none⟩,
        ⟨some 20, .cp (.c (.int .i64 0)), none⟩]) (
    .block 2 (
      .loop [false, false, false, false, false, false, false, false, false, true, false, false, false, false, false, false, false, false, false, false, false, true, true, true, true, true, true, true, true, true, true] [] a8_l1))) (
    .seq (.reg [⟨some 31, .cp (.t 7), none⟩,
        ⟨some 32, .un .not (.t 31), none⟩]) (
    .cond (.t 32) (
      .reg [⟨some 33, .tk 4, none⟩,
          ⟨some 34, .cp (.t 6), none⟩,
          ⟨some 35, .bs 1 [.t 34], none⟩,
          ⟨some 36, .app 1 16 (.t 33) (.t 35), none⟩,
          ⟨some 4, .tk 36, none⟩]) (
      .skip))))))) (
  .reg [⟨some 37, .bin .add (.t 14) (.c (.int .i64 1)), none⟩,
      ⟨some 14, .cp (.t 37), none⟩])))
def a8 : AC := .seq (.reg [⟨some 1, .box 0 2 (.t 0), none⟩,
      ⟨some 2, .alloc 1 2 [.int .i64 0, .sl .own 1 []], none⟩,
      ⟨some 3, .cp (.c (.int .i64 0)), none⟩]) (
  .seq (.reg [⟨some 4, .cp (.c (.sl .own 1 [])), none⟩]) (
  .seq (.seq (.reg [⟨some 11, .fa 1 (.t 1), none⟩,
      ⟨some 12, .ld none (.t 11), none⟩,
      ⟨some 13, .len (.t 12), none⟩,
      ⟨some 14, .cp (.c (.int .i64 0)), none⟩]) (
  .block 0 (
    .loop [false, false, false, false, false, false, true, true, false, true, false, false, false, false, false, true, true, true, true, true, true, true, true, true, true, true, true, true, true, true, true, true, true, true, true, true, true, true] [] a8_l0))) (
  .seq (.reg [⟨some 38, .fa 1 (.t 1), none⟩,
      ⟨some 39, .ld none (.t 38), none⟩,
      ⟨some 40, .len (.t 39), none⟩,
      ⟨some 41, .cp (.t 4), none⟩,
      ⟨some 42, .len (.t 41), none⟩,
      ⟨some 43, .bin .sub (.t 40) (.t 42), none⟩,
      ⟨some 10, .cp (.t 43), none⟩]) (
  .seq (.reg [⟨some 44, .tk 4, none⟩,
      ⟨some 45, .fa 1 (.t 1), none⟩,
      ⟨none, .stt (.t 45) 44, none⟩]) (
  .seq (.reg [⟨some 46, .ld (some 2) (.t 1), none⟩,
      ⟨some 47, .cp (.t 10), none⟩,
      ⟨none, .st 2 (.t 2) (.t 46), none⟩,
      ⟨some 3, .cp (.t 47), none⟩]) (
  .ret))))))
def af8 : AFn := ⟨48, 2, [.c 2 (some 2), .t 3], a8⟩
theorem ak8 : chkF Try.prog 8 af8 = true := by kernel_rfl

-- f9 fingerpost/ring.Move  boxes 6 notes []
def a9 : AC := .seq (.reg [⟨some 3, .box 0 2 (.t 0), none⟩,
      ⟨some 4, .box 1 2 (.t 1), none⟩,
      ⟨some 6, .alloc 2 2 [.int .i64 0, .sl .own 1 []], none⟩,
      ⟨some 7, .alloc 3 2 [.int .i64 0, .sl .own 1 []], none⟩,
      ⟨some 8, .cp (.c (.int .i64 0)), none⟩]) (
  .seq (.reg [⟨some 9, .cp (.c (.int .i64 0)), none⟩]) (
  .seq (.seq (.reg [⟨some 12, .fa 1 (.t 4), none⟩,
      ⟨some 13, .ld none (.t 12), none⟩,
      ⟨some 14, .len (.t 13), none⟩,
      ⟨some 15, .fa 0 (.t 4), none⟩,
      ⟨some 16, .ld none (.t 15), none⟩,
      ⟨some 17, .bin .lss (.t 14) (.t 16), none⟩]) (
  .cond (.t 17) (
    .reg [⟨some 18, .cp (.t 2), none⟩,
        ⟨some 19, .mm true [.t 18, .c (.int .i64 0)], none⟩,
        ⟨some 20, .fa 1 (.t 3), none⟩,
        ⟨some 21, .ld none (.t 20), none⟩,
        ⟨some 22, .len (.t 21), none⟩,
        ⟨some 23, .fa 0 (.t 4), none⟩,
        ⟨some 24, .ld none (.t 23), none⟩,
        ⟨some 25, .fa 1 (.t 4), none⟩,
        ⟨some 26, .ld none (.t 25), none⟩,
        ⟨some 27, .len (.t 26), none⟩,
        ⟨some 28, .bin .sub (.t 24) (.t 27), none⟩,
        ⟨some 29, .mm false [.t 19, .t 22, .t 28], none⟩,
        ⟨some 9, .cp (.t 29), none⟩]) (
    .skip))) (
  .seq (.drw [⟨some 30, .fa 0 (.t 3), none⟩,
      ⟨some 31, .ld none (.t 30), none⟩,
      ⟨some 32, .fa 1 (.t 3), none⟩,
      ⟨some 33, .ld none (.t 32), none⟩,
      ⟨some 34, .cp (.t 9), none⟩,
      ⟨some 35, .fa 1 (.t 3), none⟩,
      ⟨some 36, .ld none (.t 35), none⟩,
      ⟨some 37, .len (.t 36), none⟩,
      ⟨some 38, .call 20 [.t 33, .t 34, .t 37], none⟩,
      ⟨some 39, .bld [.int .i64 0, .sl .own 1 []] [(0, 1, .t 31), (1, 1, .t 38)], none⟩,
      ⟨some 10, .alloc 4 2 [.int .i64 0, .sl .own 1 []], none⟩,
      ⟨none, .st 2 (.t 10) (.t 39), none⟩] []) (
  .seq (.drw [⟨some 40, .fa 0 (.t 4), none⟩,
      ⟨some 41, .ld none (.t 40), none⟩,
      ⟨some 42, .fa 1 (.t 4), none⟩,
      ⟨some 43, .ld none (.t 42), none⟩,
      ⟨some 44, .fa 1 (.t 4), none⟩,
      ⟨some 45, .ld none (.t 44), none⟩,
      ⟨some 46, .len (.t 45), none⟩,
      ⟨some 47, .call 20 [.t 43, .c (.int .i64 0), .t 46], none⟩,
      ⟨some 48, .fa 1 (.t 3), none⟩,
      ⟨some 49, .ld none (.t 48), none⟩,
      ⟨some 50, .cp (.t 9), none⟩,
      ⟨some 51, .cp (.t 9), none⟩,
      ⟨some 52, .sub 1 (.t 49) none (some (.t 50)) (some (.t 51)), none⟩,
      ⟨some 53, .app 1 16 (.t 47) (.t 52), none⟩,
      ⟨some 54, .bld [.int .i64 0, .sl .own 1 []] [(0, 1, .t 41), (1, 1, .t 53)], none⟩,
      ⟨some 11, .alloc 5 2 [.int .i64 0, .sl .own 1 []], none⟩,
      ⟨none, .st 2 (.t 11) (.t 54), none⟩] []) (
  .seq (.drw [⟨some 55, .ld (some 2) (.t 10), none⟩,
      ⟨some 56, .ld (some 2) (.t 11), none⟩,
      ⟨some 57, .cp (.t 9), none⟩,
      ⟨none, .st 2 (.t 6) (.t 55), none⟩,
      ⟨none, .st 2 (.t 7) (.t 56), none⟩,
      ⟨some 8, .cp (.t 57), none⟩] [(11, 6)]) (
  .ret))))))
def af9 : AFn := ⟨58, 6, [.c 6 (some 2), .c 7 (some 2), .t 8], a9⟩
theorem ak9 : chkF Try.prog 9 af9 = true := by kernel_rfl

-- f10 fingerpost/fingerpostref12.Move  boxes 6 notes []
def a10_l0 : AC := .seq (.seq (.reg [⟨some 15, .cp (.t 9), none⟩,
      ⟨some 16, .cp (.t 2), none⟩,
      ⟨some 17, .bin .lss (.t 15) (.t 16), none⟩]) (
  .cond (.t 17) (
    .skip) (
    .exit 0))) (
  .block 1 (
    .seq (.reg [⟨some 19, .ld (some 2) (.t 3), none⟩,
        ⟨some 20, .call 21 [.t 19], none⟩,
        ⟨some 18, .tk 20, none⟩,
        ⟨some 21, .ext (.t 18) 0, none⟩,
        ⟨some 22, .ext (.t 18) 1, none⟩,
        ⟨some 23, .ext (.t 18) 2, none⟩,
        ⟨some 10, .alloc 4 2 [.int .i64 0, .sl .own 1 []], none⟩,
        ⟨none, .st 2 (.t 10) (.t 21), none⟩,
        ⟨some 11, .cp (.t 22), none⟩,
        ⟨some 12, .cp (.t 23), none⟩]) (
    .seq (.seq (.reg [⟨some 24, .cp (.t 12), none⟩,
        ⟨some 25, .bin .neq (.t 24) (.c (.int .i64 0)), none⟩]) (
    .cond (.t 25) (
      .exit 0) (
      .skip))) (
    .seq (.reg [⟨some 27, .ld (some 2) (.t 4), none⟩,
        ⟨some 28, .cp (.t 11), none⟩,
        ⟨some 29, .call 22 [.t 27, .t 28], none⟩,
        ⟨some 26, .tk 29, none⟩,
        ⟨some 30, .ext (.t 26) 0, none⟩,
        ⟨some 31, .ext (.t 26) 1, none⟩,
        ⟨some 13, .alloc 5 2 [.int .i64 0, .sl .own 1 []], none⟩,
        ⟨none, .st 2 (.t 13) (.t 30), none⟩,
        ⟨some 14, .cp (.t 31), none⟩]) (
    .seq (.seq (.reg [⟨some 32, .cp (.t 14), none⟩,
        ⟨some 33, .bin .neq (.t 32) (.c (.int .i64 0)), none⟩]) (
    .cond (.t 33) (
      .exit 0) (
      .skip))) (
    .seq (.drw [⟨some 34, .ld (some 2) (.t 10), none⟩,
        ⟨some 35, .ld (some 2) (.t 13), none⟩,
        ⟨none, .st 2 (.t 3) (.t 34), none⟩,
        ⟨none, .st 2 (.t 4) (.t 35), none⟩] [(13, 3)]) (
    .reg [⟨some 36, .cp (.t 9), none⟩,
        ⟨some 37, .bin .add (.t 36) (.c (.int .i64 1)), none⟩,
        ⟨some 9, .cp (.t 37), none⟩])))))))
def a10 : AC := .seq (.reg [⟨some 3, .box 0 2 (.t 0), none⟩,
      ⟨some 4, .box 1 2 (.t 1), none⟩,
      ⟨some 6, .alloc 2 2 [.int .i64 0, .sl .own 1 []], none⟩,
      ⟨some 7, .alloc 3 2 [.int .i64 0, .sl .own 1 []], none⟩,
      ⟨some 8, .cp (.c (.int .i64 0)), none⟩]) (
  .seq (.reg [⟨some 9, .cp (.c (.int .i64 0)), none⟩]) (
  .seq (.block 0 (
    .loop [false, false, false, false, false, false, false, false, false, false, true, true, true, true, true, true, true, true, true, true, true, true, true, true, true, true, true, true, true, true, true, true, true, true, true, true, true, true] [4, 5] a10_l0)) (
  .seq (.drw [⟨some 38, .ld (some 2) (.t 3), none⟩,
      ⟨some 39, .ld (some 2) (.t 4), none⟩,
      ⟨some 40, .cp (.t 9), none⟩,
      ⟨none, .st 2 (.t 6) (.t 38), none⟩,
      ⟨none, .st 2 (.t 7) (.t 39), none⟩,
      ⟨some 8, .cp (.t 40), none⟩] [(4, 6)]) (
  .ret))))
def af10 : AFn := ⟨41, 6, [.c 6 (some 2), .c 7 (some 2), .t 8], a10⟩
theorem ak10 : chkF Try.prog 10 af10 = true := by kernel_rfl

-- f11 fingerpost/fingerpostref12.Same  boxes 2 notes []
def a11_l0 : AC := .seq (.reg [⟨some 24, .bin .lss (.t 23) (.t 22), none⟩]) (
  .seq (.cond (.t 24) (
    .skip) (
    .exit 0)) (
  .seq (.block 1 (
    .seq (.reg [⟨some 25, .cp (.t 23), none⟩,
        ⟨some 5, .cp (.t 25), none⟩]) (
    .seq (.drw [⟨some 26, .fa 1 (.t 2), none⟩,
        ⟨some 27, .ld none (.t 26), none⟩,
        ⟨some 28, .cp (.t 5), none⟩,
        ⟨some 29, .iaE 1 (.t 27) (.t 28), none⟩,
        ⟨some 30, .ld none (.t 29), none⟩,
        ⟨some 31, .fa 1 (.t 3), none⟩,
        ⟨some 32, .ld none (.t 31), none⟩,
        ⟨some 33, .cp (.t 5), none⟩,
        ⟨some 34, .iaE 1 (.t 32) (.t 33), none⟩,
        ⟨some 35, .ld none (.t 34), none⟩,
        ⟨some 36, .bin .neq (.t 30) (.t 35), none⟩] []) (
    .cond (.t 36) (
      .seq (.reg [⟨some 4, .cp (.c (.bool false)), none⟩]) (
      .ret)) (
      .skip))))) (
  .reg [⟨some 37, .bin .add (.t 23) (.c (.int .i64 1)), none⟩,
      ⟨some 23, .cp (.t 37), none⟩])))
def a11 : AC := .seq (.reg [⟨some 2, .box 0 2 (.t 0), none⟩,
      ⟨some 3, .box 1 2 (.t 1), none⟩,
      ⟨some 4, .cp (.c (.bool false)), none⟩]) (
  .seq (.seq (.reg [⟨some 6, .fa 0 (.t 2), none⟩,
      ⟨some 7, .ld none (.t 6), none⟩,
      ⟨some 8, .fa 0 (.t 3), none⟩,
      ⟨some 9, .ld none (.t 8), none⟩,
      ⟨some 10, .bin .neq (.t 7) (.t 9), none⟩,
      ⟨some 11, .cp (.t 10), none⟩,
      ⟨some 12, .fa 1 (.t 2), some (11, false)⟩,
      ⟨some 13, .ld none (.t 12), some (11, false)⟩,
      ⟨some 14, .len (.t 13), some (11, false)⟩,
      ⟨some 15, .fa 1 (.t 3), some (11, false)⟩,
      ⟨some 16, .ld none (.t 15), some (11, false)⟩,
      ⟨some 17, .len (.t 16), some (11, false)⟩,
      ⟨some 18, .bin .neq (.t 14) (.t 17), some (11, false)⟩,
      ⟨some 19, .pick (.t 11) (.c (.bool true)) (.t 18), none⟩]) (
  .cond (.t 19) (
    .seq (.reg [⟨some 4, .cp (.c (.bool false)), none⟩]) (
    .ret)) (
    .skip))) (
  .seq (.seq (.reg [⟨some 20, .fa 1 (.t 2), none⟩,
      ⟨some 21, .ld none (.t 20), none⟩,
      ⟨some 22, .len (.t 21), none⟩,
      ⟨some 23, .cp (.c (.int .i64 0)), none⟩]) (
  .block 0 (
    .loop [false, false, false, false, true, true, false, false, false, false, false, false, false, false, false, false, false, false, false, false, false, false, false, false, true, true, true, true, true, true, true, true, true, true, true, true, true, true] [] a11_l0))) (
  .seq (.reg [⟨some 4, .cp (.c (.bool true)), none⟩]) (
  .ret))))
def af11 : AFn := ⟨38, 2, [.t 4], a11⟩
theorem ak11 : chkF Try.prog 11 af11 = true := by kernel_rfl

-- f12 fingerpost/ring.Find  boxes 1 notes []
def a12 : AC := .seq (.reg [⟨some 2, .box 0 2 (.t 0), none⟩,
      ⟨some 4, .cp (.c (.int .i64 0)), none⟩]) (
  .seq (.reg [⟨some 5, .fa 1 (.t 2), none⟩,
      ⟨some 6, .ld none (.t 5), none⟩,
      ⟨some 7, .cp (.t 1), none⟩,
      ⟨some 8, .call 23 [.t 6, .t 7], none⟩,
      ⟨some 4, .cp (.t 8), none⟩]) (
  .ret))
def af12 : AFn := ⟨9, 1, [.t 4], a12⟩
theorem ak12 : chkF Try.prog 12 af12 = true := by kernel_rfl

-- f13 fingerpost/fingerpostref12.Find  boxes 1 notes []
def a13_l0 : AC := .seq (.reg [⟨some 11, .bin .lss (.t 10) (.t 9), none⟩]) (
  .seq (.cond (.t 11) (
    .skip) (
    .exit 0)) (
  .seq (.block 1 (
    .seq (.reg [⟨some 12, .cp (.t 10), none⟩,
        ⟨some 13, .iaE 1 (.t 8) (.t 10), none⟩,
        ⟨some 14, .ld none (.t 13), none⟩,
        ⟨some 5, .cp (.t 12), none⟩,
        ⟨some 6, .cp (.t 14), none⟩]) (
    .seq (.reg [⟨some 15, .cp (.t 6), none⟩,
        ⟨some 16, .cp (.t 1), none⟩,
        ⟨some 17, .bin .eql (.t 15) (.t 16), none⟩]) (
    .cond (.t 17) (
      .seq (.reg [⟨some 18, .cp (.t 5), none⟩,
          ⟨some 4, .cp (.t 18), none⟩]) (
      .ret)) (
      .skip))))) (
  .reg [⟨some 19, .bin .add (.t 10) (.c (.int .i64 1)), none⟩,
      ⟨some 10, .cp (.t 19), none⟩])))
def a13 : AC := .seq (.reg [⟨some 2, .box 0 2 (.t 0), none⟩,
      ⟨some 4, .cp (.c (.int .i64 0)), none⟩]) (
  .seq (.seq (.reg [⟨some 7, .fa 1 (.t 2), none⟩,
      ⟨some 8, .ld none (.t 7), none⟩,
      ⟨some 9, .len (.t 8), none⟩,
      ⟨some 10, .cp (.c (.int .i64 0)), none⟩]) (
  .block 0 (
    .loop [false, false, false, false, true, true, true, false, false, false, false, true, true, true, true, true, true, true, true, true] [] a13_l0))) (
  .seq (.reg [⟨some 4, .cp (.c (.int .i64 (-1))), none⟩]) (
  .ret)))
def af13 : AFn := ⟨20, 1, [.t 4], a13⟩
theorem ak13 : chkF Try.prog 13 af13 = true := by kernel_rfl

-- f14 fingerpost/ring.New  boxes 1 notes []
def a14 : AC := .seq (.reg [⟨some 2, .alloc 0 2 [.int .i64 0, .sl .own 1 []], none⟩,
      ⟨some 3, .cp (.c (.int .i64 0)), none⟩]) (
  .seq (.seq (.reg [⟨some 4, .cp (.t 0), none⟩,
      ⟨some 5, .bin .lss (.t 4) (.c (.int .i64 1)), none⟩,
      ⟨some 6, .cp (.t 5), none⟩,
      ⟨some 7, .cp (.t 0), some (6, false)⟩,
      ⟨some 8, .bin .gtr (.t 7) (.c (.int .i64 64)), some (6, false)⟩,
      ⟨some 9, .pick (.t 6) (.c (.bool true)) (.t 8), none⟩]) (
  .cond (.t 9) (
    .seq (.reg [⟨some 10, .bld [.int .i64 0, .sl .own 1 []] [], none⟩,
        ⟨none, .st 2 (.t 2) (.t 10), none⟩,
        ⟨some 3, .cp (.c (.int .i64 1)), none⟩]) (
    .ret)) (
    .skip))) (
  .seq (.reg [⟨some 11, .cp (.t 0), none⟩,
      ⟨some 12, .bld [.int .i64 0, .sl .own 1 []] [(0, 1, .t 11)], none⟩,
      ⟨none, .st 2 (.t 2) (.t 12), none⟩,
      ⟨some 3, .cp (.c (.int .i64 0)), none⟩]) (
  .ret)))
def af14 : AFn := ⟨13, 1, [.c 2 (some 2), .t 3], a14⟩
theorem ak14 : chkF Try.prog 14 af14 = true := by kernel_rfl

-- f15 fingerpost/ring.Put  boxes 2 notes []
def a15 : AC := .seq (.reg [⟨some 2, .box 0 2 (.t 0), none⟩,
      ⟨some 4, .alloc 1 2 [.int .i64 0, .sl .own 1 []], none⟩,
      ⟨some 5, .cp (.c (.int .i64 0)), none⟩]) (
  .seq (.reg [⟨some 7, .fa 1 (.t 2), none⟩,
      ⟨some 8, .ld none (.t 7), none⟩,
      ⟨some 9, .len (.t 8), none⟩,
      ⟨some 6, .cp (.t 9), none⟩]) (
  .seq (.seq (.reg [⟨some 10, .cp (.t 6), none⟩,
      ⟨some 11, .fa 0 (.t 2), none⟩,
      ⟨some 12, .ld none (.t 11), none⟩,
      ⟨some 13, .bin .geq (.t 10) (.t 12), none⟩]) (
  .cond (.t 13) (
    .seq (.reg [⟨some 14, .ld (some 2) (.t 2), none⟩,
        ⟨none, .st 2 (.t 4) (.t 14), none⟩,
        ⟨some 5, .cp (.c (.int .i64 8)), none⟩]) (
    .ret)) (
    .skip))) (
  .seq (.drw [⟨some 15, .fa 0 (.t 2), none⟩,
      ⟨some 16, .ld none (.t 15), none⟩,
      ⟨some 17, .fa 1 (.t 2), none⟩,
      ⟨some 18, .ld none (.t 17), none⟩,
      ⟨some 19, .cp (.t 6), none⟩,
      ⟨some 20, .call 20 [.t 18, .c (.int .i64 0), .t 19], none⟩,
      ⟨some 21, .cp (.t 1), none⟩,
      ⟨some 22, .bs 1 [.t 21], none⟩,
      ⟨some 23, .app 1 16 (.t 20) (.t 22), none⟩,
      ⟨some 24, .bld [.int .i64 0, .sl .own 1 []] [(0, 1, .t 16), (1, 1, .t 23)], none⟩,
      ⟨none, .st 2 (.t 4) (.t 24), none⟩,
      ⟨some 5, .cp (.c (.int .i64 0)), none⟩] []) (
  .ret))))
def af15 : AFn := ⟨25, 2, [.c 4 (some 2), .t 5], a15⟩
theorem ak15 : chkF Try.prog 15 af15 = true := by kernel_rfl

-- f16 fingerpost/ring.Drop  boxes 2 notes []
def a16 : AC := .seq (.reg [⟨some 2, .box 0 2 (.t 0), none⟩,
      ⟨some 4, .alloc 1 2 [.int .i64 0, .sl .own 1 []], none⟩,
      ⟨some 5, .cp (.c (.int .i64 0)), none⟩]) (
  .seq (.reg [⟨some 8, .fa 1 (.t 2), none⟩,
      ⟨some 9, .ld none (.t 8), none⟩,
      ⟨some 10, .len (.t 9), none⟩,
      ⟨some 6, .cp (.t 10), none⟩]) (
  .seq (.seq (.reg [⟨some 11, .cp (.t 1), none⟩,
      ⟨some 12, .bin .lss (.t 11) (.c (.int .i64 0)), none⟩,
      ⟨some 13, .cp (.t 12), none⟩,
      ⟨some 14, .cp (.t 1), some (13, false)⟩,
      ⟨some 15, .cp (.t 6), some (13, false)⟩,
      ⟨some 16, .bin .geq (.t 14) (.t 15), some (13, false)⟩,
      ⟨some 17, .pick (.t 13) (.c (.bool true)) (.t 16), none⟩]) (
  .cond (.t 17) (
    .seq (.reg [⟨some 18, .ld (some 2) (.t 2), none⟩,
        ⟨none, .st 2 (.t 4) (.t 18), none⟩,
        ⟨some 5, .cp (.c (.int .i64 9)), none⟩]) (
    .ret)) (
    .skip))) (
  .seq (.reg [⟨some 19, .fa 1 (.t 2), none⟩,
      ⟨some 20, .ld none (.t 19), none⟩,
      ⟨some 21, .cp (.t 1), none⟩,
      ⟨some 22, .call 20 [.t 20, .c (.int .i64 0), .t 21], none⟩,
      ⟨some 7, .tk 22, none⟩]) (
  .seq (.drw [⟨some 23, .fa 0 (.t 2), none⟩,
      ⟨some 24, .ld none (.t 23), none⟩,
      ⟨some 25, .tk 7, none⟩,
      ⟨some 26, .fa 1 (.t 2), none⟩,
      ⟨some 27, .ld none (.t 26), none⟩,
      ⟨some 28, .cp (.t 1), none⟩,
      ⟨some 29, .bin .add (.t 28) (.c (.int .i64 1)), none⟩,
      ⟨some 30, .cp (.t 6), none⟩,
      ⟨some 31, .cp (.t 6), none⟩,
      ⟨some 32, .sub 1 (.t 27) (some (.t 29)) (some (.t 30)) (some (.t 31)), none⟩,
      ⟨some 33, .app 1 16 (.t 25) (.t 32), none⟩,
      ⟨some 34, .bld [.int .i64 0, .sl .own 1 []] [(0, 1, .t 24), (1, 1, .t 33)], none⟩,
      ⟨none, .st 2 (.t 4) (.t 34), none⟩,
      ⟨some 5, .cp (.c (.int .i64 0)), none⟩] []) (
  .ret)))))
def af16 : AFn := ⟨35, 2, [.c 4 (some 2), .t 5], a16⟩
theorem ak16 : chkF Try.prog 16 af16 = true := by kernel_rfl

-- f17 fingerpost/ring.Take  boxes 2 notes []
def a17 : AC := .seq (.reg [⟨some 1, .box 0 2 (.t 0), none⟩,
      ⟨some 2, .alloc 1 2 [.int .i64 0, .sl .own 1 []], none⟩,
      ⟨some 3, .cp (.c (.str [])), none⟩,
      ⟨some 4, .cp (.c (.int .i64 0)), none⟩]) (
  .seq (.seq (.reg [⟨some 5, .fa 1 (.t 1), none⟩,
      ⟨some 6, .ld none (.t 5), none⟩,
      ⟨some 7, .len (.t 6), none⟩,
      ⟨some 8, .bin .eql (.t 7) (.c (.int .i64 0)), none⟩]) (
  .cond (.t 8) (
    .seq (.reg [⟨some 9, .ld (some 2) (.t 1), none⟩,
        ⟨none, .st 2 (.t 2) (.t 9), none⟩,
        ⟨some 3, .cp (.c (.str [])), none⟩,
        ⟨some 4, .cp (.c (.int .i64 9)), none⟩]) (
    .ret)) (
    .skip))) (
  .seq (.drw [⟨some 10, .fa 0 (.t 1), none⟩,
      ⟨some 11, .ld none (.t 10), none⟩,
      ⟨some 12, .fa 1 (.t 1), none⟩,
      ⟨some 13, .ld none (.t 12), none⟩,
      ⟨some 14, .fa 1 (.t 1), none⟩,
      ⟨some 15, .ld none (.t 14), none⟩,
      ⟨some 16, .len (.t 15), none⟩,
      ⟨some 17, .call 20 [.t 13, .c (.int .i64 1), .t 16], none⟩,
      ⟨some 18, .bld [.int .i64 0, .sl .own 1 []] [(0, 1, .t 11), (1, 1, .t 17)], none⟩,
      ⟨some 19, .fa 1 (.t 1), none⟩,
      ⟨some 20, .ld none (.t 19), none⟩,
      ⟨some 21, .iaE 1 (.t 20) (.c (.int .i64 0)), none⟩,
      ⟨some 22, .ld none (.t 21), none⟩,
      ⟨none, .st 2 (.t 2) (.t 18), none⟩,
      ⟨some 3, .cp (.t 22), none⟩,
      ⟨some 4, .cp (.c (.int .i64 0)), none⟩] [(19, 2), (1, 2), (21, 2)]) (
  .ret)))
def af17 : AFn := ⟨23, 2, [.c 2 (some 2), .t 3, .t 4], a17⟩
theorem ak17 : chkF Try.prog 17 af17 = true := by kernel_rfl

-- f18 fingerpost/ring.Long  boxes 1 notes []
def a18 : AC := .seq (.reg [⟨some 1, .box 0 2 (.t 0), none⟩,
      ⟨some 2, .cp (.c (.int .i64 0)), none⟩]) (
  .seq (.reg [⟨some 3, .fa 1 (.t 1), none⟩,
      ⟨some 4, .ld none (.t 3), none⟩,
      ⟨some 5, .len (.t 4), none⟩,
      ⟨some 2, .cp (.t 5), none⟩]) (
  .ret))
def af18 : AFn := ⟨6, 1, [.t 2], a18⟩
theorem ak18 : chkF Try.prog 18 af18 = true := by kernel_rfl

-- f19 fingerpost/ring.Same  boxes 2 notes []
def a19 : AC := .seq (.reg [⟨some 2, .box 0 2 (.t 0), none⟩,
      ⟨some 3, .box 1 2 (.t 1), none⟩,
      ⟨some 4, .cp (.c (.bool false)), none⟩]) (
  .seq (.reg [⟨some 5, .fa 0 (.t 2), none⟩,
      ⟨some 6, .ld none (.t 5), none⟩,
      ⟨some 7, .fa 0 (.t 3), none⟩,
      ⟨some 8, .ld none (.t 7), none⟩,
      ⟨some 9, .bin .eql (.t 6) (.t 8), none⟩,
      ⟨some 10, .cp (.t 9), none⟩,
      ⟨some 11, .fa 1 (.t 2), some (10, true)⟩,
      ⟨some 12, .ld none (.t 11), some (10, true)⟩,
      ⟨some 13, .fa 1 (.t 3), some (10, true)⟩,
      ⟨some 14, .ld none (.t 13), some (10, true)⟩,
      ⟨some 15, .call 24 [.t 12, .t 14], some (10, true)⟩,
      ⟨some 16, .pick (.t 10) (.t 15) (.c (.bool false)), none⟩,
      ⟨some 4, .cp (.t 16), none⟩]) (
  .ret))
def af19 : AFn := ⟨17, 2, [.t 4], a19⟩
theorem ak19 : chkF Try.prog 19 af19 = true := by kernel_rfl

-- f20 fingerpost/ring.cut  boxes 0 notes []
def a20 : AC := .seq (.reg [⟨some 6, .cp (.c (.sl .own 1 [])), none⟩]) (
  .seq (.reg [⟨some 7, .tk 0, none⟩,
      ⟨some 8, .cp (.t 1), none⟩,
      ⟨some 9, .cp (.t 2), none⟩,
      ⟨some 10, .cp (.t 2), none⟩,
      ⟨some 11, .sub 1 (.t 7) (some (.t 8)) (some (.t 9)) (some (.t 10)), none⟩,
      ⟨some 12, .app 1 16 (.c (.sl .own 1 [])) (.t 11), none⟩,
      ⟨some 6, .tk 12, none⟩]) (
  .ret))
def af20 : AFn := ⟨13, 0, [.t 6], a20⟩
theorem ak20 : chkF Try.prog 20 af20 = true := by kernel_rfl

-- f21 fingerpost/fingerpostref12.Take  boxes 2 notes []
def a21 : AC := .seq (.reg [⟨some 1, .box 0 2 (.t 0), none⟩,
      ⟨some 2, .alloc 1 2 [.int .i64 0, .sl .own 1 []], none⟩,
      ⟨some 3, .cp (.c (.str [])), none⟩,
      ⟨some 4, .cp (.c (.int .i64 0)), none⟩]) (
  .seq (.seq (.reg [⟨some 6, .fa 1 (.t 1), none⟩,
      ⟨some 7, .ld none (.t 6), none⟩,
      ⟨some 8, .len (.t 7), none⟩,
      ⟨some 9, .bin .eql (.t 8) (.c (.int .i64 0)), none⟩]) (
  .cond (.t 9) (
    .seq (.reg [⟨some 10, .ld (some 2) (.t 1), none⟩,
        ⟨none, .st 2 (.t 2) (.t 10), none⟩,
        ⟨some 3, .cp (.c (.str [])), none⟩,
        ⟨some 4, .cp (.c (.int .i64 9)), none⟩]) (
    .ret)) (
    .skip))) (
  .seq (.reg [⟨some 11, .fa 1 (.t 1), none⟩,
      ⟨some 12, .ld none (.t 11), none⟩,
      ⟨some 13, .iaE 1 (.t 12) (.c (.int .i64 0)), none⟩,
      ⟨some 14, .ld none (.t 13), none⟩,
      ⟨some 5, .cp (.t 14), none⟩]) (
  .seq (.reg [⟨some 15, .bs 1 [], none⟩,
      ⟨some 16, .fa 1 (.t 1), none⟩,
      ⟨some 17, .ldt (.t 16), none⟩,
      ⟨some 18, .sub 1 (.t 17) (some (.c (.int .i64 1))) none none, none⟩,
      ⟨some 19, .app 1 16 (.t 15) (.t 18), none⟩,
      ⟨some 20, .fa 1 (.t 1), none⟩,
      ⟨none, .stt (.t 20) 19, none⟩]) (
  .seq (.reg [⟨some 21, .ld (some 2) (.t 1), none⟩,
      ⟨some 22, .cp (.t 5), none⟩,
      ⟨none, .st 2 (.t 2) (.t 21), none⟩,
      ⟨some 3, .cp (.t 22), none⟩,
      ⟨some 4, .cp (.c (.int .i64 0)), none⟩]) (
  .ret)))))
def af21 : AFn := ⟨23, 2, [.c 2 (some 2), .t 3, .t 4], a21⟩
theorem ak21 : chkF Try.prog 21 af21 = true := by kernel_rfl

-- f22 fingerpost/fingerpostref12.Put  boxes 2 notes []
def a22 : AC := .seq (.reg [⟨some 2, .box 0 2 (.t 0), none⟩,
      ⟨some 4, .alloc 1 2 [.int .i64 0, .sl .own 1 []], none⟩,
      ⟨some 5, .cp (.c (.int .i64 0)), none⟩]) (
  .seq (.seq (.reg [⟨some 6, .fa 1 (.t 2), none⟩,
      ⟨some 7, .ld none (.t 6), none⟩,
      ⟨some 8, .len (.t 7), none⟩,
      ⟨some 9, .fa 0 (.t 2), none⟩,
      ⟨some 10, .ld none (.t 9), none⟩,
      ⟨some 11, .bin .geq (.t 8) (.t 10), none⟩]) (
  .cond (.t 11) (
    .seq (.reg [⟨some 12, .ld (some 2) (.t 2), none⟩,
        ⟨none, .st 2 (.t 4) (.t 12), none⟩,
        ⟨some 5, .cp (.c (.int .i64 8)), none⟩]) (
    .ret)) (
    .skip))) (
  .seq (.reg [⟨some 13, .bs 1 [], none⟩,
      ⟨some 14, .fa 1 (.t 2), none⟩,
      ⟨some 15, .ldt (.t 14), none⟩,
      ⟨some 16, .app 1 16 (.t 13) (.t 15), none⟩,
      ⟨some 17, .cp (.t 1), none⟩,
      ⟨some 18, .bs 1 [.t 17], none⟩,
      ⟨some 19, .app 1 16 (.t 16) (.t 18), none⟩,
      ⟨some 20, .fa 1 (.t 2), none⟩,
      ⟨none, .stt (.t 20) 19, none⟩]) (
  .seq (.reg [⟨some 21, .ld (some 2) (.t 2), none⟩,
      ⟨none, .st 2 (.t 4) (.t 21), none⟩,
      ⟨some 5, .cp (.c (.int .i64 0)), none⟩]) (
  .ret))))
def af22 : AFn := ⟨22, 2, [.c 4 (some 2), .t 5], a22⟩
theorem ak22 : chkF Try.prog 22 af22 = true := by kernel_rfl

-- f23 slices.Index[[]string,string]  boxes 0 notes []
def a23_l0 : AC := .seq (.reg [⟨some 9, .bin .lss (.t 8) (.t 7), none⟩]) (
  .seq (.cond (.t 9) (
    .skip) (
    .exit 0)) (
  .seq (.block 1 (
    .seq (.reg [⟨some 10, .cp (.t 8), none⟩,
        ⟨some 5, .cp (.t 10), none⟩]) (
    .seq (.reg [⟨some 11, .cp (.t 1), none⟩,
        ⟨some 12, .cp (.t 0), none⟩,
        ⟨some 13, .cp (.t 5), none⟩,
        ⟨some 14, .iaE 1 (.t 12) (.t 13), none⟩,
        ⟨some 15, .ld none (.t 14), none⟩,
        ⟨some 16, .bin .eql (.t 11) (.t 15), none⟩]) (
    .cond (.t 16) (
      .seq (.reg [⟨some 17, .cp (.t 5), none⟩,
          ⟨some 4, .cp (.t 17), none⟩]) (
      .ret)) (
      .skip))))) (
  .reg [⟨some 18, .bin .add (.t 8) (.c (.int .i64 1)), none⟩,
      ⟨some 8, .cp (.t 18), none⟩])))
def a23 : AC := .seq (.reg [⟨some 4, .cp (.c (.int .i64 0)), none⟩]) (
  .seq (.seq (.reg [⟨some 6, .cp (.t 0), none⟩,
      ⟨some 7, .len (.t 6), none⟩,
      ⟨some 8, .cp (.c (.int .i64 0)), none⟩]) (
  .block 0 (
    .loop [false, false, false, false, true, true, false, false, false, true, true, true, true, true, true, true, true, true, true] [] a23_l0))) (
  .seq (.reg [⟨some 4, .cp (.c (.int .i64 (-1))), none⟩]) (
  .ret)))
def af23 : AFn := ⟨19, 0, [.t 4], a23⟩
theorem ak23 : chkF Try.prog 23 af23 = true := by kernel_rfl

-- f24 slices.Equal[[]string,string]  boxes 0 notes []
def a24_l0 : AC := .seq (.reg [⟨some 14, .bin .lss (.t 13) (.t 12), none⟩]) (
  .seq (.cond (.t 14) (
    .skip) (
    .exit 0)) (
  .seq (.block 1 (
    .seq (.reg [⟨some 15, .cp (.t 13), none⟩,
        ⟨some 5, .cp (.t 15), none⟩]) (
    .seq (.drw [⟨some 16, .cp (.t 0), none⟩,
        ⟨some 17, .cp (.t 5), none⟩,
        ⟨some 18, .iaE 1 (.t 16) (.t 17), none⟩,
        ⟨some 19, .ld none (.t 18), none⟩,
        ⟨some 20, .cp (.t 1), none⟩,
        ⟨some 21, .cp (.t 5), none⟩,
        ⟨some 22, .iaE 1 (.t 20) (.t 21), none⟩,
        ⟨some 23, .ld none (.t 22), none⟩,
        ⟨some 24, .bin .neq (.t 19) (.t 23), none⟩] []) (
    .cond (.t 24) (
      .seq (.reg [⟨some 4, .cp (.c (.bool false)), none⟩]) (
      .ret)) (
      .skip))))) (
  .reg [⟨some 25, .bin .add (.t 13) (.c (.int .i64 1)), none⟩,
      ⟨some 13, .cp (.t 25), none⟩])))
def a24 : AC := .seq (.reg [⟨some 4, .cp (.c (.bool false)), none⟩]) (
  .seq (.seq (.reg [⟨some 6, .cp (.t 0), none⟩,
      ⟨some 7, .len (.t 6), none⟩,
      ⟨some 8, .cp (.t 1), none⟩,
      ⟨some 9, .len (.t 8), none⟩,
      ⟨some 10, .bin .neq (.t 7) (.t 9), none⟩]) (
  .cond (.t 10) (
    .seq (.reg [⟨some 4, .cp (.c (.bool false)), none⟩]) (
    .ret)) (
    .skip))) (
  .seq (.seq (.reg [⟨some 11, .cp (.t 0), none⟩,
      ⟨some 12, .len (.t 11), none⟩,
      ⟨some 13, .cp (.c (.int .i64 0)), none⟩]) (
  .block 0 (
    .loop [false, false, false, false, true, true, false, false, false, false, false, false, false, false, true, true, true, true, true, true, true, true, true, true, true, true] [] a24_l0))) (
  .seq (.reg [⟨some 4, .cp (.c (.bool true)), none⟩]) (
  .ret))))
def af24 : AFn := ⟨26, 0, [.t 4], a24⟩
theorem ak24 : chkF Try.prog 24 af24 = true := by kernel_rfl

end Go.Proofs.Ytgdkpiabahpleaa

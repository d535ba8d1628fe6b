/- The functions as data, and that they are the program's. -/
import Derived.Test.YtmchbkmenokkdaaAwN
set_option maxRecDepth 100000
namespace Go.Proofs.Ytmchbkmenokkdaa
open Go.RowKit
-- f3 fingerpost/fingerpostlaw12.RingFirst  boxes 3 notes []
def a3_l0 : AC := .seq (.reg [⟨some 35, .bin .lss (.t 34) (.t 33), none⟩]) (
  .seq (.cond (.t 35) (
    .skip) (
    .exit 0)) (
  .seq (.block 1 (
    .seq (.reg [⟨some 36, .iaE 1 (.t 32) (.t 34), none⟩,
        ⟨some 37, .ld none (.t 36), none⟩,
        ⟨some 10, .cp (.t 37), none⟩]) (
    .seq (.seq (.reg [⟨some 38, .cp (.t 10), none⟩]) (
    .cond (.t 38) (
      .seq (.reg [⟨some 40, .ld (some 2) (.t 5), none⟩,
          ⟨some 41, .cp (.t 7), none⟩,
          ⟨some 42, .cv (.int .u8) (.t 41), none⟩,
          ⟨some 43, .bs 1 [.t 42], none⟩,
          ⟨some 44, .cv .str (.t 43), none⟩,
          ⟨some 45, .call 17 [.t 40, .t 44], none⟩,
          ⟨some 39, .tk 45, none⟩,
          ⟨some 46, .ext (.t 39) 0, none⟩,
          ⟨some 47, .ext (.t 39) 1, none⟩,
          ⟨some 11, .alloc 1 2 [.int .i64 0, .sl .own 1 []], none⟩,
          ⟨none, .st 2 (.t 11) (.t 46), none⟩,
          ⟨some 12, .cp (.t 47), none⟩]) (
      .seq (.seq (.reg [⟨some 48, .cp (.t 12), none⟩,
          ⟨some 49, .bin .eql (.t 48) (.c (.int .i64 0)), none⟩,
          ⟨some 50, .cp (.t 7), none⟩,
          ⟨some 51, .cp (.t 8), none⟩,
          ⟨some 52, .bin .sub (.t 50) (.t 51), none⟩,
          ⟨some 53, .cp (.t 0), none⟩,
          ⟨some 54, .bin .lss (.t 52) (.t 53), none⟩,
          ⟨some 55, .eqB true (.t 49) (.t 54), none⟩]) (
      .cond (.t 55) (
        .seq (.reg [⟨some 4, .cp (.c (.bool false)), none⟩]) (
        .ret)) (
        .skip))) (
      .seq (.seq (.reg [⟨some 56, .cp (.t 12), none⟩,
          ⟨some 57, .bin .eql (.t 56) (.c (.int .i64 0)), none⟩]) (
      .cond (.t 57) (
        .reg [⟨some 58, .cp (.t 7), none⟩,
            ⟨some 59, .bin .add (.t 58) (.c (.int .i64 1)), none⟩,
            ⟨some 7, .cp (.t 59), none⟩]) (
        .skip))) (
      .seq (.reg [⟨some 60, .ld (some 2) (.t 11), none⟩,
          ⟨none, .st 2 (.t 5) (.t 60), none⟩]) (
      .exit 1))))) (
      .skip))) (
    .seq (.reg [⟨some 62, .ld (some 2) (.t 5), none⟩,
        ⟨some 63, .call 18 [.t 62], none⟩,
        ⟨some 61, .tk 63, none⟩,
        ⟨some 64, .ext (.t 61) 0, none⟩,
        ⟨some 65, .ext (.t 61) 1, none⟩,
        ⟨some 66, .ext (.t 61) 2, none⟩,
        ⟨some 13, .alloc 2 2 [.int .i64 0, .sl .own 1 []], none⟩,
        ⟨none, .st 2 (.t 13) (.t 64), none⟩,
        ⟨some 14, .cp (.t 65), none⟩,
        ⟨some 15, .cp (.t 66), none⟩]) (
    .seq (.seq (.reg [⟨some 67, .cp (.t 15), none⟩,
        ⟨some 68, .bin .eql (.t 67) (.c (.int .i64 0)), none⟩,
        ⟨some 69, .cp (.t 7), none⟩,
        ⟨some 70, .cp (.t 8), none⟩,
        ⟨some 71, .bin .gtr (.t 69) (.t 70), none⟩,
        ⟨some 72, .eqB true (.t 68) (.t 71), none⟩,
        ⟨some 73, .cp (.t 72), none⟩,
        ⟨some 74, .cp (.t 15), some (73, false)⟩,
        ⟨some 75, .bin .eql (.t 74) (.c (.int .i64 0)), some (73, false)⟩,
        ⟨some 76, .cp (.t 75), some (73, false)⟩,
        ⟨some 77, .cp (.t 14), some (76, true)⟩,
        ⟨some 78, .cp (.t 8), some (76, true)⟩,
        ⟨some 79, .cv (.int .u8) (.t 78), some (76, true)⟩,
        ⟨some 80, .bs 1 [.t 79], some (76, true)⟩,
        ⟨some 81, .cv .str (.t 80), some (76, true)⟩,
        ⟨some 82, .bin .neq (.t 77) (.t 81), some (76, true)⟩,
        ⟨some 83, .pick (.t 76) (.t 82) (.c (.bool false)), some (73, false)⟩,
        ⟨some 84, .pick (.t 73) (.c (.bool true)) (.t 83), none⟩]) (
    .cond (.t 84) (
      .seq (.reg [⟨some 4, .cp (.c (.bool false)), none⟩]) (
      .ret)) (
      .skip))) (
    .seq (.seq (.reg [⟨some 85, .cp (.t 15), none⟩,
        ⟨some 86, .bin .eql (.t 85) (.c (.int .i64 0)), none⟩]) (
    .cond (.t 86) (
      .reg [⟨some 87, .cp (.t 8), none⟩,
          ⟨some 88, .bin .add (.t 87) (.c (.int .i64 1)), none⟩,
          ⟨some 8, .cp (.t 88), none⟩]) (
      .skip))) (
    .reg [⟨some 89, .ld (some 2) (.t 13), none⟩,
        ⟨none, .st 2 (.t 5) (.t 89), none⟩]))))))) (
  .reg [⟨some 90, .bin .add (.t 34) (.c (.int .i64 1)), none⟩,
      ⟨some 34, .cp (.t 90), none⟩])))
def a3 : AC := .seq (.reg [⟨some 4, .cp (.c (.bool false)), none⟩]) (
  .seq (.seq (.reg [⟨some 16, .cp (.t 1), none⟩,
      ⟨some 17, .len (.t 16), none⟩,
      ⟨some 18, .bin .gtr (.t 17) (.c (.int .i64 200)), none⟩]) (
  .cond (.t 18) (
    .seq (.reg [⟨some 19, .call 15 [], none⟩,
        ⟨some 4, .cp (.t 19), none⟩]) (
    .ret)) (
    .skip))) (
  .seq (.reg [⟨some 20, .cp (.t 0), none⟩,
      ⟨some 21, .cv (.int .u64) (.t 20), none⟩,
      ⟨some 22, .bin .rem (.t 21) (.c (.int .u64 20)), none⟩,
      ⟨some 23, .cv (.int .i64) (.t 22), none⟩,
      ⟨some 24, .bin .add (.c (.int .i64 1)) (.t 23), none⟩,
      ⟨some 0, .cp (.t 24), none⟩]) (
  .seq (.reg [⟨some 26, .cp (.t 0), none⟩,
      ⟨some 27, .call 16 [.t 26], none⟩,
      ⟨some 25, .tk 27, none⟩,
      ⟨some 28, .ext (.t 25) 0, none⟩,
      ⟨some 29, .ext (.t 25) 1, none⟩,
      ⟨some 5, .alloc 0 2 [.int .i64 0, .sl .own 1 []], none⟩,
      ⟨none, .st 2 (.t 5) (.t 28), none⟩,
      ⟨some 6, .cp (.t 29), none⟩]) (
  .seq (.seq (.reg [⟨some 30, .cp (.t 6), none⟩,
      ⟨some 31, .bin .neq (.t 30) (.c (.int .i64 0)), none⟩]) (
  .cond (.t 31) (
    .seq (.reg [⟨some 4, .cp (.c (.bool false)), none⟩]) (
    .ret)) (
    .skip))) (
  .seq (.reg [⟨some 7, .cp (.c (.int .i64 0)), none⟩,
      ⟨some 8, .cp (.c (.int .i64 0)), none⟩]) (
  .seq (.seq (.reg [⟨some 32, .tk 1, none⟩,
      ⟨some 33, .len (.t 32), none⟩,
      ⟨some 34, .cp (.c (.int .i64 0)), none⟩]) (
  .block 0 (
    .loop [false, false, false, false, true, false, false, false, false, false, true, true, true, true, true, true, false, false, false, false, false, false, false, false, false, false, false, false, false, false, false, false, false, false, false, true, true, true, true, true, true, true, true, true, true, true, true, true, true, true, true, true, true, true, true, true, true, true, true, true, true, true, true, true, true, true, true, true, true, true, true, true, true, true, true, true, true, true, true, true, true, true, true, true, true, true, true, true, true, true, true] [1, 2] a3_l0))) (
  .seq (.reg [⟨some 91, .ld (some 2) (.t 5), none⟩,
      ⟨some 92, .call 19 [.t 91], none⟩,
      ⟨some 93, .cp (.t 7), none⟩,
      ⟨some 94, .cp (.t 8), none⟩,
      ⟨some 95, .bin .sub (.t 93) (.t 94), none⟩,
      ⟨some 96, .bin .eql (.t 92) (.t 95), none⟩,
      ⟨some 97, .cp (.t 96), none⟩,
      ⟨some 98, .call 15 [], some (97, true)⟩,
      ⟨some 99, .pick (.t 97) (.t 98) (.c (.bool false)), none⟩,
      ⟨some 4, .cp (.t 99), none⟩]) (
  .ret))))))))
def af3 : AFn := ⟨100, 3, [.t 4], a3⟩
theorem ak3 : chkF Try.prog 3 af3 = true := by kernel_rfl

-- f15 fingerpost/fingerpostlaw12.awake  boxes 7 notes []
def a15 : AC := .seq (.reg [⟨some 0, .cp (.c (.bool false)), none⟩]) (
  .seq (.reg [⟨some 18, .call 16 [.c (.int .i64 2)], none⟩,
      ⟨some 17, .tk 18, none⟩,
      ⟨some 19, .ext (.t 17) 0, none⟩,
      ⟨some 20, .ext (.t 17) 1, none⟩,
      ⟨some 1, .alloc 0 2 [.int .i64 0, .sl .own 1 []], none⟩,
      ⟨none, .st 2 (.t 1) (.t 19), none⟩,
      ⟨some 2, .cp (.t 20), none⟩]) (
  .seq (.reg [⟨some 22, .ld (some 2) (.t 1), none⟩,
      ⟨some 23, .call 17 [.t 22, .c (.str [97])], none⟩,
      ⟨some 21, .tk 23, none⟩,
      ⟨some 24, .ext (.t 21) 0, none⟩,
      ⟨some 25, .ext (.t 21) 1, none⟩,
      ⟨none, .st 2 (.t 1) (.t 24), none⟩]) (
  .seq (.reg [⟨some 27, .ld (some 2) (.t 1), none⟩,
      ⟨some 28, .call 17 [.t 27, .c (.str [98])], none⟩,
      ⟨some 26, .tk 28, none⟩,
      ⟨some 29, .ext (.t 26) 0, none⟩,
      ⟨some 30, .ext (.t 26) 1, none⟩,
      ⟨none, .st 2 (.t 1) (.t 29), none⟩]) (
  .seq (.reg [⟨some 32, .ld (some 2) (.t 1), none⟩,
      ⟨some 33, .call 17 [.t 32, .c (.str [99])], none⟩,
      ⟨some 31, .tk 33, none⟩,
      ⟨some 34, .ext (.t 31) 0, none⟩,
      ⟨some 35, .ext (.t 31) 1, none⟩,
      ⟨some 3, .alloc 1 2 [.int .i64 0, .sl .own 1 []], none⟩,
      ⟨none, .st 2 (.t 3) (.t 34), none⟩,
      ⟨some 4, .cp (.t 35), none⟩]) (
  .seq (.reg [⟨some 37, .ld (some 2) (.t 1), none⟩,
      ⟨some 38, .call 88 [.t 37, .c (.int .i64 1)], none⟩,
      ⟨some 36, .tk 38, none⟩,
      ⟨some 39, .ext (.t 36) 0, none⟩,
      ⟨some 40, .ext (.t 36) 1, none⟩,
      ⟨some 5, .alloc 2 2 [.int .i64 0, .sl .own 1 []], none⟩,
      ⟨none, .st 2 (.t 5) (.t 39), none⟩,
      ⟨some 6, .cp (.t 40), none⟩]) (
  .seq (.reg [⟨some 42, .ld (some 2) (.t 1), none⟩,
      ⟨some 43, .call 18 [.t 42], none⟩,
      ⟨some 41, .tk 43, none⟩,
      ⟨some 44, .ext (.t 41) 0, none⟩,
      ⟨some 45, .ext (.t 41) 1, none⟩,
      ⟨some 46, .ext (.t 41) 2, none⟩,
      ⟨some 7, .alloc 3 2 [.int .i64 0, .sl .own 1 []], none⟩,
      ⟨none, .st 2 (.t 7) (.t 44), none⟩,
      ⟨some 8, .cp (.t 45), none⟩,
      ⟨some 9, .cp (.t 46), none⟩]) (
  .seq (.reg [⟨some 48, .bld [.int .i64 0, .sl .own 1 []] [(0, 1, .c (.int .i64 1))], none⟩,
      ⟨some 49, .call 18 [.t 48], none⟩,
      ⟨some 47, .tk 49, none⟩,
      ⟨some 50, .ext (.t 47) 0, none⟩,
      ⟨some 51, .ext (.t 47) 1, none⟩,
      ⟨some 52, .ext (.t 47) 2, none⟩,
      ⟨some 10, .alloc 4 2 [.int .i64 0, .sl .own 1 []], none⟩,
      ⟨none, .st 2 (.t 10) (.t 50), none⟩,
      ⟨some 11, .cp (.t 51), none⟩,
      ⟨some 12, .cp (.t 52), none⟩]) (
  .seq (.reg [⟨some 54, .call 16 [.c (.int .i64 0)], none⟩,
      ⟨some 53, .tk 54, none⟩,
      ⟨some 55, .ext (.t 53) 0, none⟩,
      ⟨some 56, .ext (.t 53) 1, none⟩,
      ⟨some 13, .alloc 5 2 [.int .i64 0, .sl .own 1 []], none⟩,
      ⟨none, .st 2 (.t 13) (.t 55), none⟩,
      ⟨some 14, .cp (.t 56), none⟩]) (
  .seq (.reg [⟨some 58, .ld (some 2) (.t 1), none⟩,
      ⟨some 59, .call 88 [.t 58, .c (.int .i64 2)], none⟩,
      ⟨some 57, .tk 59, none⟩,
      ⟨some 60, .ext (.t 57) 0, none⟩,
      ⟨some 61, .ext (.t 57) 1, none⟩,
      ⟨some 15, .alloc 6 2 [.int .i64 0, .sl .own 1 []], none⟩,
      ⟨none, .st 2 (.t 15) (.t 60), none⟩,
      ⟨some 16, .cp (.t 61), none⟩]) (
  .seq (.seq (.reg [⟨some 62, .fa 1 (.t 5), none⟩,
      ⟨some 63, .ld none (.t 62), none⟩,
      ⟨some 64, .len (.t 63), none⟩,
      ⟨some 65, .bin .neq (.t 64) (.c (.int .i64 1)), none⟩,
      ⟨some 66, .cp (.t 65), none⟩,
      ⟨some 67, .fa 1 (.t 7), some (66, false)⟩,
      ⟨some 68, .ld none (.t 67), some (66, false)⟩,
      ⟨some 69, .len (.t 68), some (66, false)⟩,
      ⟨some 70, .bin .neq (.t 69) (.c (.int .i64 1)), some (66, false)⟩,
      ⟨some 71, .pick (.t 66) (.c (.bool true)) (.t 70), none⟩]) (
  .cond (.t 71) (
    .seq (.reg [⟨some 0, .cp (.c (.bool false)), none⟩]) (
    .ret)) (
    .skip))) (
  .seq (.reg [⟨some 72, .cp (.t 2), none⟩,
      ⟨some 73, .bin .eql (.t 72) (.c (.int .i64 0)), none⟩,
      ⟨some 74, .cp (.t 73), none⟩,
      ⟨some 75, .cp (.t 4), some (74, true)⟩,
      ⟨some 76, .bin .eql (.t 75) (.c (.int .i64 8)), some (74, true)⟩,
      ⟨some 77, .pick (.t 74) (.t 76) (.c (.bool false)), none⟩,
      ⟨some 78, .cp (.t 77), none⟩,
      ⟨some 79, .cp (.t 6), some (78, true)⟩,
      ⟨some 80, .bin .eql (.t 79) (.c (.int .i64 0)), some (78, true)⟩,
      ⟨some 81, .pick (.t 78) (.t 80) (.c (.bool false)), none⟩,
      ⟨some 82, .cp (.t 81), none⟩,
      ⟨some 83, .fa 1 (.t 5), some (82, true)⟩,
      ⟨some 84, .ld none (.t 83), some (82, true)⟩,
      ⟨some 85, .iaE 1 (.t 84) (.c (.int .i64 0)), some (82, true)⟩,
      ⟨some 86, .ld none (.t 85), some (82, true)⟩,
      ⟨some 87, .bin .eql (.t 86) (.c (.str [97])), some (82, true)⟩,
      ⟨some 88, .pick (.t 82) (.t 87) (.c (.bool false)), none⟩,
      ⟨some 89, .cp (.t 88), none⟩,
      ⟨some 90, .cp (.t 8), some (89, true)⟩,
      ⟨some 91, .bin .eql (.t 90) (.c (.str [97])), some (89, true)⟩,
      ⟨some 92, .pick (.t 89) (.t 91) (.c (.bool false)), none⟩,
      ⟨some 93, .cp (.t 92), none⟩,
      ⟨some 94, .cp (.t 9), some (93, true)⟩,
      ⟨some 95, .bin .eql (.t 94) (.c (.int .i64 0)), some (93, true)⟩,
      ⟨some 96, .pick (.t 93) (.t 95) (.c (.bool false)), none⟩,
      ⟨some 97, .cp (.t 96), none⟩,
      ⟨some 98, .fa 1 (.t 7), some (97, true)⟩,
      ⟨some 99, .ld none (.t 98), some (97, true)⟩,
      ⟨some 100, .iaE 1 (.t 99) (.c (.int .i64 0)), some (97, true)⟩,
      ⟨some 101, .ld none (.t 100), some (97, true)⟩,
      ⟨some 102, .bin .eql (.t 101) (.c (.str [98])), some (97, true)⟩,
      ⟨some 103, .pick (.t 97) (.t 102) (.c (.bool false)), none⟩,
      ⟨some 104, .cp (.t 103), none⟩,
      ⟨some 105, .cp (.t 12), some (104, true)⟩,
      ⟨some 106, .bin .eql (.t 105) (.c (.int .i64 9)), some (104, true)⟩,
      ⟨some 107, .pick (.t 104) (.t 106) (.c (.bool false)), none⟩,
      ⟨some 108, .cp (.t 107), none⟩,
      ⟨some 109, .cp (.t 14), some (108, true)⟩,
      ⟨some 110, .bin .eql (.t 109) (.c (.int .i64 1)), some (108, true)⟩,
      ⟨some 111, .pick (.t 108) (.t 110) (.c (.bool false)), none⟩,
      ⟨some 112, .cp (.t 111), none⟩,
      ⟨some 113, .cp (.t 16), some (112, true)⟩,
      ⟨some 114, .bin .eql (.t 113) (.c (.int .i64 9)), some (112, true)⟩,
      ⟨some 115, .pick (.t 112) (.t 114) (.c (.bool false)), none⟩,
      ⟨some 116, .cp (.t 115), none⟩,
      ⟨some 117, .ld (some 2) (.t 1), some (116, true)⟩,
      ⟨some 118, .call 19 [.t 117], some (116, true)⟩,
      ⟨some 119, .bin .eql (.t 118) (.c (.int .i64 2)), some (116, true)⟩,
      ⟨some 120, .pick (.t 116) (.t 119) (.c (.bool false)), none⟩,
      ⟨some 121, .cp (.t 120), none⟩,
      ⟨some 122, .ld (some 2) (.t 1), some (121, true)⟩,
      ⟨some 123, .ld (some 2) (.t 1), some (121, true)⟩,
      ⟨some 124, .call 89 [.t 122, .t 123], some (121, true)⟩,
      ⟨some 125, .pick (.t 121) (.t 124) (.c (.bool false)), none⟩,
      ⟨some 126, .cp (.t 125), none⟩,
      ⟨some 127, .ld (some 2) (.t 1), some (126, true)⟩,
      ⟨some 128, .ld (some 2) (.t 7), some (126, true)⟩,
      ⟨some 129, .call 89 [.t 127, .t 128], some (126, true)⟩,
      ⟨some 130, .un .not (.t 129), some (126, true)⟩,
      ⟨some 131, .pick (.t 126) (.t 130) (.c (.bool false)), none⟩,
      ⟨some 0, .cp (.t 131), none⟩]) (
  .ret))))))))))))
def af15 : AFn := ⟨132, 7, [.t 0], a15⟩
theorem ak15 : chkF Try.prog 15 af15 = true := by kernel_rfl

-- f16 fingerpost/ring.New  boxes 1 notes []
def a16 : AC := .seq (.reg [⟨some 2, .alloc 0 2 [.int .i64 0, .sl .own 1 []], none⟩,
      ⟨some 3, .cp (.c (.int .i64 0)), none⟩]) (
  .seq (.seq (.reg [⟨some 4, .cp (.t 0), none⟩,
      ⟨some 5, .bin .lss (.t 4) (.c (.int .i64 1)), none⟩,
      ⟨some 6, .cp (.t 5), none⟩,
      ⟨some 7, .cp (.t 0), some (6, false)⟩,
      ⟨some 8, .bin .gtr (.t 7) (.c (.int .i64 64)), some (6, false)⟩,
      ⟨some 9, .pick (.t 6) (.c (.bool true)) (.t 8), none⟩]) (
  .cond (.t 9) (
    .seq (.reg [⟨some 10, .bld [.int .i64 0, .sl .own 1 []] [], none⟩,
        ⟨none, .st 2 (.t 2) (.t 10), none⟩,
        ⟨some 3, .cp (.c (.int .i64 1)), none⟩]) (
    .ret)) (
    .skip))) (
  .seq (.reg [⟨some 11, .cp (.t 0), none⟩,
      ⟨some 12, .bld [.int .i64 0, .sl .own 1 []] [(0, 1, .t 11)], none⟩,
      ⟨none, .st 2 (.t 2) (.t 12), none⟩,
      ⟨some 3, .cp (.c (.int .i64 0)), none⟩]) (
  .ret)))
def af16 : AFn := ⟨13, 1, [.c 2 (some 2), .t 3], a16⟩
theorem ak16 : chkF Try.prog 16 af16 = true := by kernel_rfl

-- f17 fingerpost/ring.Put  boxes 2 notes []
def a17 : AC := .seq (.reg [⟨some 2, .box 0 2 (.t 0), none⟩,
      ⟨some 4, .alloc 1 2 [.int .i64 0, .sl .own 1 []], none⟩,
      ⟨some 5, .cp (.c (.int .i64 0)), none⟩]) (
  .seq (.reg [⟨some 7, .fa 1 (.t 2), none⟩,
      ⟨some 8, .ld none (.t 7), none⟩,
      ⟨some 9, .len (.t 8), none⟩,
      ⟨some 6, .cp (.t 9), none⟩]) (
  .seq (.seq (.reg [⟨some 10, .cp (.t 6), none⟩,
      ⟨some 11, .fa 0 (.t 2), none⟩,
      ⟨some 12, .ld none (.t 11), none⟩,
      ⟨some 13, .bin .geq (.t 10) (.t 12), none⟩]) (
  .cond (.t 13) (
    .seq (.reg [⟨some 14, .ld (some 2) (.t 2), none⟩,
        ⟨none, .st 2 (.t 4) (.t 14), none⟩,
        ⟨some 5, .cp (.c (.int .i64 8)), none⟩]) (
    .ret)) (
    .skip))) (
  .seq (.drw [⟨some 15, .fa 0 (.t 2), none⟩,
      ⟨some 16, .ld none (.t 15), none⟩,
      ⟨some 17, .fa 1 (.t 2), none⟩,
      ⟨some 18, .ld none (.t 17), none⟩,
      ⟨some 19, .cp (.t 6), none⟩,
      ⟨some 20, .call 90 [.t 18, .c (.int .i64 0), .t 19], none⟩,
      ⟨some 21, .cp (.t 1), none⟩,
      ⟨some 22, .bs 1 [.t 21], none⟩,
      ⟨some 23, .app 1 16 (.t 20) (.t 22), none⟩,
      ⟨some 24, .bld [.int .i64 0, .sl .own 1 []] [(0, 1, .t 16), (1, 1, .t 23)], none⟩,
      ⟨none, .st 2 (.t 4) (.t 24), none⟩,
      ⟨some 5, .cp (.c (.int .i64 0)), none⟩] []) (
  .ret))))
def af17 : AFn := ⟨25, 2, [.c 4 (some 2), .t 5], a17⟩
theorem ak17 : chkF Try.prog 17 af17 = true := by kernel_rfl

-- f18 fingerpost/ring.Take  boxes 2 notes []
def a18 : AC := .seq (.reg [⟨some 1, .box 0 2 (.t 0), none⟩,
      ⟨some 2, .alloc 1 2 [.int .i64 0, .sl .own 1 []], none⟩,
      ⟨some 3, .cp (.c (.str [])), none⟩,
      ⟨some 4, .cp (.c (.int .i64 0)), none⟩]) (
  .seq (.seq (.reg [⟨some 5, .fa 1 (.t 1), none⟩,
      ⟨some 6, .ld none (.t 5), none⟩,
      ⟨some 7, .len (.t 6), none⟩,
      ⟨some 8, .bin .eql (.t 7) (.c (.int .i64 0)), none⟩]) (
  .cond (.t 8) (
    .seq (.reg [⟨some 9, .ld (some 2) (.t 1), none⟩,
        ⟨none, .st 2 (.t 2) (.t 9), none⟩,
        ⟨some 3, .cp (.c (.str [])), none⟩,
        ⟨some 4, .cp (.c (.int .i64 9)), none⟩]) (
    .ret)) (
    .skip))) (
  .seq (.drw [⟨some 10, .fa 0 (.t 1), none⟩,
      ⟨some 11, .ld none (.t 10), none⟩,
      ⟨some 12, .fa 1 (.t 1), none⟩,
      ⟨some 13, .ld none (.t 12), none⟩,
      ⟨some 14, .fa 1 (.t 1), none⟩,
      ⟨some 15, .ld none (.t 14), none⟩,
      ⟨some 16, .len (.t 15), none⟩,
      ⟨some 17, .call 90 [.t 13, .c (.int .i64 1), .t 16], none⟩,
      ⟨some 18, .bld [.int .i64 0, .sl .own 1 []] [(0, 1, .t 11), (1, 1, .t 17)], none⟩,
      ⟨some 19, .fa 1 (.t 1), none⟩,
      ⟨some 20, .ld none (.t 19), none⟩,
      ⟨some 21, .iaE 1 (.t 20) (.c (.int .i64 0)), none⟩,
      ⟨some 22, .ld none (.t 21), none⟩,
      ⟨none, .st 2 (.t 2) (.t 18), none⟩,
      ⟨some 3, .cp (.t 22), none⟩,
      ⟨some 4, .cp (.c (.int .i64 0)), none⟩] [(19, 2), (1, 2), (21, 2)]) (
  .ret)))
def af18 : AFn := ⟨23, 2, [.c 2 (some 2), .t 3, .t 4], a18⟩
theorem ak18 : chkF Try.prog 18 af18 = true := by kernel_rfl

-- f19 fingerpost/ring.Long  boxes 1 notes []
def a19 : AC := .seq (.reg [⟨some 1, .box 0 2 (.t 0), none⟩,
      ⟨some 2, .cp (.c (.int .i64 0)), none⟩]) (
  .seq (.reg [⟨some 3, .fa 1 (.t 1), none⟩,
      ⟨some 4, .ld none (.t 3), none⟩,
      ⟨some 5, .len (.t 4), none⟩,
      ⟨some 2, .cp (.t 5), none⟩]) (
  .ret))
def af19 : AFn := ⟨6, 1, [.t 2], a19⟩
theorem ak19 : chkF Try.prog 19 af19 = true := by kernel_rfl

-- f88 fingerpost/ring.Drop  boxes 2 notes []
def a88 : AC := .seq (.reg [⟨some 2, .box 0 2 (.t 0), none⟩,
      ⟨some 4, .alloc 1 2 [.int .i64 0, .sl .own 1 []], none⟩,
      ⟨some 5, .cp (.c (.int .i64 0)), none⟩]) (
  .seq (.reg [⟨some 8, .fa 1 (.t 2), none⟩,
      ⟨some 9, .ld none (.t 8), none⟩,
      ⟨some 10, .len (.t 9), none⟩,
      ⟨some 6, .cp (.t 10), none⟩]) (
  .seq (.seq (.reg [⟨some 11, .cp (.t 1), none⟩,
      ⟨some 12, .bin .lss (.t 11) (.c (.int .i64 0)), none⟩,
      ⟨some 13, .cp (.t 12), none⟩,
      ⟨some 14, .cp (.t 1), some (13, false)⟩,
      ⟨some 15, .cp (.t 6), some (13, false)⟩,
      ⟨some 16, .bin .geq (.t 14) (.t 15), some (13, false)⟩,
      ⟨some 17, .pick (.t 13) (.c (.bool true)) (.t 16), none⟩]) (
  .cond (.t 17) (
    .seq (.reg [⟨some 18, .ld (some 2) (.t 2), none⟩,
        ⟨none, .st 2 (.t 4) (.t 18), none⟩,
        ⟨some 5, .cp (.c (.int .i64 9)), none⟩]) (
    .ret)) (
    .skip))) (
  .seq (.reg [⟨some 19, .fa 1 (.t 2), none⟩,
      ⟨some 20, .ld none (.t 19), none⟩,
      ⟨some 21, .cp (.t 1), none⟩,
      ⟨some 22, .call 90 [.t 20, .c (.int .i64 0), .t 21], none⟩,
      ⟨some 7, .tk 22, none⟩]) (
  .seq (.drw [⟨some 23, .fa 0 (.t 2), none⟩,
      ⟨some 24, .ld none (.t 23), none⟩,
      ⟨some 25, .tk 7, none⟩,
      ⟨some 26, .fa 1 (.t 2), none⟩,
      ⟨some 27, .ld none (.t 26), none⟩,
      ⟨some 28, .cp (.t 1), none⟩,
      ⟨some 29, .bin .add (.t 28) (.c (.int .i64 1)), none⟩,
      ⟨some 30, .cp (.t 6), none⟩,
      ⟨some 31, .cp (.t 6), none⟩,
      ⟨some 32, .sub 1 (.t 27) (some (.t 29)) (some (.t 30)) (some (.t 31)), none⟩,
      ⟨some 33, .app 1 16 (.t 25) (.t 32), none⟩,
      ⟨some 34, .bld [.int .i64 0, .sl .own 1 []] [(0, 1, .t 24), (1, 1, .t 33)], none⟩,
      ⟨none, .st 2 (.t 4) (.t 34), none⟩,
      ⟨some 5, .cp (.c (.int .i64 0)), none⟩] []) (
  .ret)))))
def af88 : AFn := ⟨35, 2, [.c 4 (some 2), .t 5], a88⟩
theorem ak88 : chkF Try.prog 88 af88 = true := by kernel_rfl

-- f89 fingerpost/ring.Same  boxes 2 notes []
def a89 : AC := .seq (.reg [⟨some 2, .box 0 2 (.t 0), none⟩,
      ⟨some 3, .box 1 2 (.t 1), none⟩,
      ⟨some 4, .cp (.c (.bool false)), none⟩]) (
  .seq (.reg [⟨some 5, .fa 0 (.t 2), none⟩,
      ⟨some 6, .ld none (.t 5), none⟩,
      ⟨some 7, .fa 0 (.t 3), none⟩,
      ⟨some 8, .ld none (.t 7), none⟩,
      ⟨some 9, .bin .eql (.t 6) (.t 8), none⟩,
      ⟨some 10, .cp (.t 9), none⟩,
      ⟨some 11, .fa 1 (.t 2), some (10, true)⟩,
      ⟨some 12, .ld none (.t 11), some (10, true)⟩,
      ⟨some 13, .fa 1 (.t 3), some (10, true)⟩,
      ⟨some 14, .ld none (.t 13), some (10, true)⟩,
      ⟨some 15, .call 125 [.t 12, .t 14], some (10, true)⟩,
      ⟨some 16, .pick (.t 10) (.t 15) (.c (.bool false)), none⟩,
      ⟨some 4, .cp (.t 16), none⟩]) (
  .ret))
def af89 : AFn := ⟨17, 2, [.t 4], a89⟩
theorem ak89 : chkF Try.prog 89 af89 = true := by kernel_rfl

-- f90 fingerpost/ring.cut  boxes 0 notes []
def a90 : AC := .seq (.reg [⟨some 6, .cp (.c (.sl .own 1 [])), none⟩]) (
  .seq (.reg [⟨some 7, .tk 0, none⟩,
      ⟨some 8, .cp (.t 1), none⟩,
      ⟨some 9, .cp (.t 2), none⟩,
      ⟨some 10, .cp (.t 2), none⟩,
      ⟨some 11, .sub 1 (.t 7) (some (.t 8)) (some (.t 9)) (some (.t 10)), none⟩,
      ⟨some 12, .app 1 16 (.c (.sl .own 1 [])) (.t 11), none⟩,
      ⟨some 6, .tk 12, none⟩]) (
  .ret))
def af90 : AFn := ⟨13, 0, [.t 6], a90⟩
theorem ak90 : chkF Try.prog 90 af90 = true := by kernel_rfl

-- f125 slices.Equal[[]string,string]  boxes 0 notes []
def a125_l0 : AC := .seq (.reg [⟨some 14, .bin .lss (.t 13) (.t 12), none⟩]) (
  .seq (.cond (.t 14) (
    .skip) (
    .exit 0)) (
  .seq (.block 1 (
    .seq (.reg [⟨some 15, .cp (.t 13), none⟩,
        ⟨some 5, .cp (.t 15), none⟩]) (
    .seq (.drw [⟨some 16, .cp (.t 0), none⟩,
        ⟨some 17, .cp (.t 5), none⟩,
        ⟨some 18, .iaE 1 (.t 16) (.t 17), none⟩,
        ⟨some 19, .ld none (.t 18), none⟩,
        ⟨some 20, .cp (.t 1), none⟩,
        ⟨some 21, .cp (.t 5), none⟩,
        ⟨some 22, .iaE 1 (.t 20) (.t 21), none⟩,
        ⟨some 23, .ld none (.t 22), none⟩,
        ⟨some 24, .bin .neq (.t 19) (.t 23), none⟩] []) (
    .cond (.t 24) (
      .seq (.reg [⟨some 4, .cp (.c (.bool false)), none⟩]) (
      .ret)) (
      .skip))))) (
  .reg [⟨some 25, .bin .add (.t 13) (.c (.int .i64 1)), none⟩,
      ⟨some 13, .cp (.t 25), none⟩])))
def a125 : AC := .seq (.reg [⟨some 4, .cp (.c (.bool false)), none⟩]) (
  .seq (.seq (.reg [⟨some 6, .cp (.t 0), none⟩,
      ⟨some 7, .len (.t 6), none⟩,
      ⟨some 8, .cp (.t 1), none⟩,
      ⟨some 9, .len (.t 8), none⟩,
      ⟨some 10, .bin .neq (.t 7) (.t 9), none⟩]) (
  .cond (.t 10) (
    .seq (.reg [⟨some 4, .cp (.c (.bool false)), none⟩]) (
    .ret)) (
    .skip))) (
  .seq (.seq (.reg [⟨some 11, .cp (.t 0), none⟩,
      ⟨some 12, .len (.t 11), none⟩,
      ⟨some 13, .cp (.c (.int .i64 0)), none⟩]) (
  .block 0 (
    .loop [false, false, false, false, true, true, false, false, false, false, false, false, false, false, true, true, true, true, true, true, true, true, true, true, true, true] [] a125_l0))) (
  .seq (.reg [⟨some 4, .cp (.c (.bool true)), none⟩]) (
  .ret))))
def af125 : AFn := ⟨26, 0, [.t 4], a125⟩
theorem ak125 : chkF Try.prog 125 af125 = true := by kernel_rfl

end Go.Proofs.Ytmchbkmenokkdaa

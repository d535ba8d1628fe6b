/- The functions as data, and that they are the program's. -/
import Derived.Test.YtkcdeefnkbbacaaAwN
set_option maxRecDepth 100000
namespace Go.Proofs.Ytkcdeefnkbbacaa
open Go.RowKit
-- f5 fingerpost/fingerpostlaw08.PartSays  boxes 4 notes []
def a5 : AC := .seq (.reg [⟨some 3, .box 0 8 (.t 0), none⟩,
      ⟨some 4, .box 1 8 (.t 1), none⟩,
      ⟨some 6, .cp (.c (.bool false)), none⟩]) (
  .seq (.seq (.reg [⟨some 15, .ld (some 8) (.t 3), none⟩,
      ⟨some 16, .call 26 [.t 15], none⟩,
      ⟨some 17, .cp (.t 16), none⟩,
      ⟨some 18, .ld (some 8) (.t 4), some (17, false)⟩,
      ⟨some 19, .call 26 [.t 18], some (17, false)⟩,
      ⟨some 20, .pick (.t 17) (.c (.bool true)) (.t 19), none⟩,
      ⟨some 21, .cp (.t 20), none⟩,
      ⟨some 22, .cp (.t 2), some (21, false)⟩,
      ⟨some 23, .lenS (.t 22), some (21, false)⟩,
      ⟨some 24, .bin .gtr (.t 23) (.c (.int .i64 1000)), some (21, false)⟩,
      ⟨some 25, .pick (.t 21) (.c (.bool true)) (.t 24), none⟩]) (
  .cond (.t 25) (
    .seq (.reg [⟨some 26, .call 27 [], none⟩,
        ⟨some 6, .cp (.t 26), none⟩]) (
    .ret)) (
    .skip))) (
  .seq (.reg [⟨some 28, .ld (some 8) (.t 3), none⟩,
      ⟨some 29, .call 28 [.t 28], none⟩,
      ⟨some 27, .tk 29, none⟩,
      ⟨some 30, .ext (.t 27) 0, none⟩,
      ⟨some 31, .ext (.t 27) 1, none⟩,
      ⟨some 7, .cp (.t 30), none⟩,
      ⟨some 8, .cp (.t 31), none⟩]) (
  .seq (.reg [⟨some 33, .ld (some 8) (.t 3), none⟩,
      ⟨some 34, .call 29 [.t 33], none⟩,
      ⟨some 32, .tk 34, none⟩,
      ⟨some 35, .ext (.t 32) 0, none⟩,
      ⟨some 36, .ext (.t 32) 1, none⟩,
      ⟨some 9, .cp (.t 35), none⟩,
      ⟨some 10, .cp (.t 36), none⟩]) (
  .seq (.reg [⟨some 38, .cp (.t 2), none⟩,
      ⟨some 39, .call 30 [.t 38], none⟩,
      ⟨some 37, .tk 39, none⟩,
      ⟨some 40, .ext (.t 37) 0, none⟩,
      ⟨some 41, .ext (.t 37) 1, none⟩,
      ⟨some 11, .alloc 2 8 [.int .i64 0, .int .u32 0, .int .u32 0, .int .u32 0, .int .u32 0, .int .i64 0, .bool false, .sl .own 4 []], none⟩,
      ⟨none, .st 8 (.t 11) (.t 40), none⟩,
      ⟨some 12, .cp (.t 41), none⟩]) (
  .seq (.reg [⟨some 43, .cp (.t 2), none⟩,
      ⟨some 44, .call 31 [.t 43], none⟩,
      ⟨some 42, .tk 44, none⟩,
      ⟨some 45, .ext (.t 42) 0, none⟩,
      ⟨some 46, .ext (.t 42) 1, none⟩,
      ⟨some 13, .alloc 3 8 [.int .i64 0, .int .u32 0, .int .u32 0, .int .u32 0, .int .u32 0, .int .i64 0, .bool false, .sl .own 4 []], none⟩,
      ⟨none, .st 8 (.t 13) (.t 45), none⟩,
      ⟨some 14, .cp (.t 46), none⟩]) (
  .seq (.drw [⟨some 47, .ld (some 8) (.t 3), none⟩,
      ⟨some 48, .call 32 [.t 47], none⟩,
      ⟨some 49, .ld (some 8) (.t 3), none⟩,
      ⟨some 50, .call 33 [.t 49], none⟩,
      ⟨some 51, .eqB false (.t 48) (.t 50), none⟩,
      ⟨some 52, .cp (.t 51), none⟩,
      ⟨some 53, .cp (.t 7), some (52, true)⟩,
      ⟨some 54, .cp (.t 9), some (52, true)⟩,
      ⟨some 55, .bin .eql (.t 53) (.t 54), some (52, true)⟩,
      ⟨some 56, .pick (.t 52) (.t 55) (.c (.bool false)), none⟩,
      ⟨some 57, .cp (.t 56), none⟩,
      ⟨some 58, .cp (.t 8), some (57, true)⟩,
      ⟨some 59, .cp (.t 10), some (57, true)⟩,
      ⟨some 60, .bin .eql (.t 58) (.t 59), some (57, true)⟩,
      ⟨some 61, .pick (.t 57) (.t 60) (.c (.bool false)), none⟩,
      ⟨some 62, .cp (.t 61), none⟩,
      ⟨some 63, .ld (some 8) (.t 11), some (62, true)⟩,
      ⟨some 64, .ld (some 8) (.t 13), some (62, true)⟩,
      ⟨some 65, .call 34 [.t 63, .t 64], some (62, true)⟩,
      ⟨some 66, .pick (.t 62) (.t 65) (.c (.bool false)), none⟩,
      ⟨some 67, .cp (.t 66), none⟩,
      ⟨some 68, .cp (.t 12), some (67, true)⟩,
      ⟨some 69, .cp (.t 14), some (67, true)⟩,
      ⟨some 70, .bin .eql (.t 68) (.t 69), some (67, true)⟩,
      ⟨some 71, .pick (.t 67) (.t 70) (.c (.bool false)), none⟩,
      ⟨some 72, .cp (.t 71), none⟩,
      ⟨some 73, .ld (some 8) (.t 3), some (72, true)⟩,
      ⟨some 74, .ld (some 8) (.t 4), some (72, true)⟩,
      ⟨some 75, .call 35 [.t 73, .t 74], some (72, true)⟩,
      ⟨some 76, .ld (some 8) (.t 3), some (72, true)⟩,
      ⟨some 77, .ld (some 8) (.t 4), some (72, true)⟩,
      ⟨some 78, .call 34 [.t 76, .t 77], some (72, true)⟩,
      ⟨some 79, .eqB false (.t 75) (.t 78), some (72, true)⟩,
      ⟨some 80, .pick (.t 72) (.t 79) (.c (.bool false)), none⟩,
      ⟨some 81, .cp (.t 80), none⟩,
      ⟨some 82, .call 27 [], some (81, true)⟩,
      ⟨some 83, .pick (.t 81) (.t 82) (.c (.bool false)), none⟩,
      ⟨some 6, .cp (.t 83), none⟩] []) (
  .ret)))))))
def af5 : AFn := ⟨84, 4, [.t 6], a5⟩
theorem ak5 : chkF Try.prog 5 af5 = true := by kernel_rfl

-- f6 fingerpost/fingerpostlaw08.PartBack  boxes 3 notes []
def a6 : AC := .seq (.reg [⟨some 2, .box 0 8 (.t 0), none⟩,
      ⟨some 4, .cp (.c (.bool false)), none⟩]) (
  .seq (.seq (.reg [⟨some 13, .ld (some 8) (.t 2), none⟩,
      ⟨some 14, .call 26 [.t 13], none⟩,
      ⟨some 15, .cp (.t 14), none⟩,
      ⟨some 16, .cp (.t 1), some (15, false)⟩,
      ⟨some 17, .lenS (.t 16), some (15, false)⟩,
      ⟨some 18, .bin .gtr (.t 17) (.c (.int .i64 1000)), some (15, false)⟩,
      ⟨some 19, .pick (.t 15) (.c (.bool true)) (.t 18), none⟩]) (
  .cond (.t 19) (
    .seq (.reg [⟨some 20, .call 27 [], none⟩,
        ⟨some 4, .cp (.t 20), none⟩]) (
    .ret)) (
    .skip))) (
  .seq (.seq (.reg [⟨some 22, .ld (some 8) (.t 2), none⟩,
      ⟨some 23, .call 28 [.t 22], none⟩,
      ⟨some 21, .tk 23, none⟩,
      ⟨some 24, .ext (.t 21) 0, none⟩,
      ⟨some 25, .ext (.t 21) 1, none⟩,
      ⟨some 5, .cp (.t 24), none⟩,
      ⟨some 6, .cp (.t 25), none⟩]) (
  .seq (.reg [⟨some 26, .cp (.t 6), none⟩,
      ⟨some 27, .bin .eql (.t 26) (.c (.int .i64 0)), none⟩]) (
  .cond (.t 27) (
    .seq (.reg [⟨some 29, .cp (.t 5), none⟩,
        ⟨some 30, .call 30 [.t 29], none⟩,
        ⟨some 28, .tk 30, none⟩,
        ⟨some 31, .ext (.t 28) 0, none⟩,
        ⟨some 32, .ext (.t 28) 1, none⟩,
        ⟨some 7, .alloc 1 8 [.int .i64 0, .int .u32 0, .int .u32 0, .int .u32 0, .int .u32 0, .int .i64 0, .bool false, .sl .own 4 []], none⟩,
        ⟨none, .st 8 (.t 7) (.t 31), none⟩,
        ⟨some 8, .cp (.t 32), none⟩]) (
    .seq (.reg [⟨some 33, .cp (.t 8), none⟩,
        ⟨some 34, .bin .neq (.t 33) (.c (.int .i64 0)), none⟩,
        ⟨some 35, .cp (.t 34), none⟩,
        ⟨some 36, .ld (some 8) (.t 7), some (35, false)⟩,
        ⟨some 37, .ld (some 8) (.t 2), some (35, false)⟩,
        ⟨some 38, .call 35 [.t 36, .t 37], some (35, false)⟩,
        ⟨some 39, .un .not (.t 38), some (35, false)⟩,
        ⟨some 40, .pick (.t 35) (.c (.bool true)) (.t 39), none⟩,
        ⟨some 41, .cp (.t 40), none⟩,
        ⟨some 42, .cp (.t 5), some (41, false)⟩,
        ⟨some 43, .lenS (.t 42), some (41, false)⟩,
        ⟨some 44, .bin .gtr (.t 43) (.c (.int .i64 60)), some (41, false)⟩,
        ⟨some 45, .pick (.t 41) (.c (.bool true)) (.t 44), none⟩]) (
    .cond (.t 45) (
      .seq (.reg [⟨some 4, .cp (.c (.bool false)), none⟩]) (
      .ret)) (
      .skip)))) (
    .skip)))) (
  .seq (.seq (.reg [⟨some 47, .cp (.t 1), none⟩,
      ⟨some 48, .call 30 [.t 47], none⟩,
      ⟨some 46, .tk 48, none⟩,
      ⟨some 49, .ext (.t 46) 0, none⟩,
      ⟨some 50, .ext (.t 46) 1, none⟩,
      ⟨some 9, .alloc 2 8 [.int .i64 0, .int .u32 0, .int .u32 0, .int .u32 0, .int .u32 0, .int .i64 0, .bool false, .sl .own 4 []], none⟩,
      ⟨none, .st 8 (.t 9) (.t 49), none⟩,
      ⟨some 10, .cp (.t 50), none⟩]) (
  .seq (.reg [⟨some 51, .cp (.t 10), none⟩,
      ⟨some 52, .bin .eql (.t 51) (.c (.int .i64 0)), none⟩]) (
  .cond (.t 52) (
    .seq (.reg [⟨some 54, .ld (some 8) (.t 9), none⟩,
        ⟨some 55, .call 28 [.t 54], none⟩,
        ⟨some 53, .tk 55, none⟩,
        ⟨some 56, .ext (.t 53) 0, none⟩,
        ⟨some 57, .ext (.t 53) 1, none⟩,
        ⟨some 11, .cp (.t 56), none⟩,
        ⟨some 12, .cp (.t 57), none⟩]) (
    .seq (.reg [⟨some 58, .cp (.t 12), none⟩,
        ⟨some 59, .bin .eql (.t 58) (.c (.int .i64 0)), none⟩,
        ⟨some 60, .cp (.t 59), none⟩,
        ⟨some 61, .cp (.t 11), some (60, true)⟩,
        ⟨some 62, .cp (.t 1), some (60, true)⟩,
        ⟨some 63, .bin .eql (.t 61) (.t 62), some (60, true)⟩,
        ⟨some 64, .pick (.t 60) (.t 63) (.c (.bool false)), none⟩,
        ⟨some 65, .cp (.t 64), none⟩,
        ⟨some 66, .call 27 [], some (65, true)⟩,
        ⟨some 67, .pick (.t 65) (.t 66) (.c (.bool false)), none⟩,
        ⟨some 4, .cp (.t 67), none⟩]) (
    .ret))) (
    .skip)))) (
  .seq (.reg [⟨some 68, .call 27 [], none⟩,
      ⟨some 4, .cp (.t 68), none⟩]) (
  .ret)))))
def af6 : AFn := ⟨69, 3, [.t 4], a6⟩
theorem ak6 : chkF Try.prog 6 af6 = true := by kernel_rfl

-- f26 fingerpost/fingerpostlaw08.Long  boxes 1 notes []
def a26 : AC := .seq (.reg [⟨some 1, .box 0 8 (.t 0), none⟩,
      ⟨some 2, .cp (.c (.bool false)), none⟩]) (
  .seq (.reg [⟨some 3, .fa 7 (.t 1), none⟩,
      ⟨some 4, .ld none (.t 3), none⟩,
      ⟨some 5, .len (.t 4), none⟩,
      ⟨some 6, .bin .gtr (.t 5) (.c (.int .i64 100)), none⟩,
      ⟨some 2, .cp (.t 6), none⟩]) (
  .ret))
def af26 : AFn := ⟨7, 1, [.t 2], a26⟩
theorem ak26 : chkF Try.prog 26 af26 = true := by kernel_rfl

-- f27 fingerpost/fingerpostlaw08.awake  boxes 2 notes []
def a27 : AC := .seq (.reg [⟨some 0, .cp (.c (.bool false)), none⟩]) (
  .seq (.reg [⟨some 10, .call 98 [], none⟩,
      ⟨some 11, .call 28 [.t 10], none⟩,
      ⟨some 9, .tk 11, none⟩,
      ⟨some 12, .ext (.t 9) 0, none⟩,
      ⟨some 13, .ext (.t 9) 1, none⟩,
      ⟨some 1, .cp (.t 12), none⟩,
      ⟨some 2, .cp (.t 13), none⟩]) (
  .seq (.reg [⟨some 15, .cp (.t 1), none⟩,
      ⟨some 16, .call 30 [.t 15], none⟩,
      ⟨some 14, .tk 16, none⟩,
      ⟨some 17, .ext (.t 14) 0, none⟩,
      ⟨some 18, .ext (.t 14) 1, none⟩,
      ⟨some 3, .alloc 0 8 [.int .i64 0, .int .u32 0, .int .u32 0, .int .u32 0, .int .u32 0, .int .i64 0, .bool false, .sl .own 4 []], none⟩,
      ⟨none, .st 8 (.t 3) (.t 17), none⟩,
      ⟨some 4, .cp (.t 18), none⟩]) (
  .seq (.reg [⟨some 20, .call 30 [.c (.str [115, 104, 111, 114, 116])], none⟩,
      ⟨some 19, .tk 20, none⟩,
      ⟨some 21, .ext (.t 19) 0, none⟩,
      ⟨some 22, .ext (.t 19) 1, none⟩,
      ⟨some 5, .alloc 1 8 [.int .i64 0, .int .u32 0, .int .u32 0, .int .u32 0, .int .u32 0, .int .i64 0, .bool false, .sl .own 4 []], none⟩,
      ⟨none, .st 8 (.t 5) (.t 21), none⟩,
      ⟨some 6, .cp (.t 22), none⟩]) (
  .seq (.reg [⟨some 24, .bld [.int .i64 0, .int .u32 0, .int .u32 0, .int .u32 0, .int .u32 0, .int .i64 0, .bool false, .sl .own 4 []] [(0, 1, .c (.int .i64 16))], none⟩,
      ⟨some 25, .call 28 [.t 24], none⟩,
      ⟨some 23, .tk 25, none⟩,
      ⟨some 26, .ext (.t 23) 0, none⟩,
      ⟨some 27, .ext (.t 23) 1, none⟩,
      ⟨some 7, .cp (.t 26), none⟩,
      ⟨some 8, .cp (.t 27), none⟩]) (
  .seq (.seq (.reg [⟨some 28, .cp (.t 1), none⟩,
      ⟨some 29, .lenS (.t 28), none⟩,
      ⟨some 30, .bin .neq (.t 29) (.c (.int .i64 26)), none⟩]) (
  .cond (.t 30) (
    .seq (.reg [⟨some 0, .cp (.c (.bool false)), none⟩]) (
    .ret)) (
    .skip))) (
  .seq (.drw [⟨some 31, .cp (.t 2), none⟩,
      ⟨some 32, .bin .eql (.t 31) (.c (.int .i64 0)), none⟩,
      ⟨some 33, .cp (.t 32), none⟩,
      ⟨some 34, .cp (.t 1), some (33, true)⟩,
      ⟨some 35, .subS (.t 34) (some (.c (.int .i64 17))) (some (.c (.int .i64 20))), some (33, true)⟩,
      ⟨some 36, .bin .eql (.t 35) (.c (.str [1, 2, 1])), some (33, true)⟩,
      ⟨some 37, .pick (.t 33) (.t 36) (.c (.bool false)), none⟩,
      ⟨some 38, .cp (.t 37), none⟩,
      ⟨some 39, .cp (.t 4), some (38, true)⟩,
      ⟨some 40, .bin .eql (.t 39) (.c (.int .i64 0)), some (38, true)⟩,
      ⟨some 41, .pick (.t 38) (.t 40) (.c (.bool false)), none⟩,
      ⟨some 42, .cp (.t 41), none⟩,
      ⟨some 43, .ld (some 8) (.t 3), some (42, true)⟩,
      ⟨some 44, .call 98 [], some (42, true)⟩,
      ⟨some 45, .call 35 [.t 43, .t 44], some (42, true)⟩,
      ⟨some 46, .pick (.t 42) (.t 45) (.c (.bool false)), none⟩,
      ⟨some 47, .cp (.t 46), none⟩,
      ⟨some 48, .cp (.t 6), some (47, true)⟩,
      ⟨some 49, .bin .eql (.t 48) (.c (.int .i64 2)), some (47, true)⟩,
      ⟨some 50, .pick (.t 47) (.t 49) (.c (.bool false)), none⟩,
      ⟨some 51, .cp (.t 50), none⟩,
      ⟨some 52, .cp (.t 8), some (51, true)⟩,
      ⟨some 53, .bin .eql (.t 52) (.c (.int .i64 1)), some (51, true)⟩,
      ⟨some 54, .pick (.t 51) (.t 53) (.c (.bool false)), none⟩,
      ⟨some 55, .cp (.t 54), none⟩,
      ⟨some 56, .ld (some 8) (.t 3), some (55, true)⟩,
      ⟨some 57, .call 32 [.t 56], some (55, true)⟩,
      ⟨some 58, .pick (.t 55) (.t 57) (.c (.bool false)), none⟩,
      ⟨some 59, .cp (.t 58), none⟩,
      ⟨some 60, .ld (some 8) (.t 3), some (59, true)⟩,
      ⟨some 61, .bld [.int .i64 0, .int .u32 0, .int .u32 0, .int .u32 0, .int .u32 0, .int .i64 0, .bool false, .sl .own 4 []] [], some (59, true)⟩,
      ⟨some 62, .call 35 [.t 60, .t 61], some (59, true)⟩,
      ⟨some 63, .un .not (.t 62), some (59, true)⟩,
      ⟨some 64, .pick (.t 59) (.t 63) (.c (.bool false)), none⟩,
      ⟨some 0, .cp (.t 64), none⟩] []) (
  .ret)))))))
def af27 : AFn := ⟨65, 2, [.t 0], a27⟩
theorem ak27 : chkF Try.prog 27 af27 = true := by kernel_rfl

-- f28 fingerpost/part.Bytes  boxes 1 notes []
def a28 : AC := .seq (.reg [⟨some 1, .box 0 8 (.t 0), none⟩,
      ⟨some 2, .cp (.c (.str [])), none⟩,
      ⟨some 3, .cp (.c (.int .i64 0)), none⟩]) (
  .seq (.reg [⟨some 9, .fa 7 (.t 1), none⟩,
      ⟨some 10, .ld none (.t 9), none⟩,
      ⟨some 11, .call 99 [.t 10], none⟩,
      ⟨some 8, .tk 11, none⟩,
      ⟨some 12, .ext (.t 8) 0, none⟩,
      ⟨some 13, .ext (.t 8) 1, none⟩,
      ⟨some 4, .cp (.t 12), none⟩,
      ⟨some 5, .cp (.t 13), none⟩]) (
  .seq (.seq (.reg [⟨some 14, .ld (some 8) (.t 1), none⟩,
      ⟨some 15, .call 32 [.t 14], none⟩,
      ⟨some 16, .un .not (.t 15), none⟩]) (
  .cond (.t 16) (
    .seq (.reg [⟨some 2, .cp (.c (.str [])), none⟩,
        ⟨some 3, .cp (.c (.int .i64 1)), none⟩]) (
    .ret)) (
    .skip))) (
  .seq (.reg [⟨some 6, .cp (.c (.int .u64 0)), none⟩]) (
  .seq (.seq (.reg [⟨some 17, .fa 6 (.t 1), none⟩,
      ⟨some 18, .ld none (.t 17), none⟩]) (
  .cond (.t 18) (
    .reg [⟨some 6, .cp (.c (.int .u64 1)), none⟩]) (
    .skip))) (
  .seq (.drw [⟨some 19, .fa 0 (.t 1), none⟩,
      ⟨some 20, .ld none (.t 19), none⟩,
      ⟨some 21, .cv (.int .u64) (.t 20), none⟩,
      ⟨some 22, .call 100 [.t 21, .c (.int .i64 1)], none⟩,
      ⟨some 23, .fa 1 (.t 1), none⟩,
      ⟨some 24, .ld (some 4) (.t 23), none⟩,
      ⟨some 25, .call 79 [.t 24], none⟩,
      ⟨some 26, .bin .add (.t 22) (.t 25), none⟩,
      ⟨some 7, .cp (.t 26), none⟩] []) (
  .seq (.reg [⟨some 27, .cp (.t 7), none⟩,
      ⟨some 28, .fa 5 (.t 1), none⟩,
      ⟨some 29, .ld none (.t 28), none⟩,
      ⟨some 30, .cv (.int .u64) (.t 29), none⟩,
      ⟨some 31, .call 100 [.t 30, .c (.int .i64 2)], none⟩,
      ⟨some 32, .bin .add (.t 27) (.t 31), none⟩,
      ⟨some 33, .cp (.t 6), none⟩,
      ⟨some 34, .call 100 [.t 33, .c (.int .i64 1)], none⟩,
      ⟨some 35, .bin .add (.t 32) (.t 34), none⟩,
      ⟨some 36, .cp (.t 4), none⟩,
      ⟨some 37, .bin .add (.t 35) (.t 36), none⟩,
      ⟨some 2, .cp (.t 37), none⟩,
      ⟨some 3, .cp (.c (.int .i64 0)), none⟩]) (
  .ret)))))))
def af28 : AFn := ⟨38, 1, [.t 2, .t 3], a28⟩
theorem ak28 : chkF Try.prog 28 af28 = true := by kernel_rfl

-- f29 fingerpost/fingerpostref08.Bytes  boxes 1 notes []
def a29 : AC := .seq (.reg [⟨some 1, .box 0 8 (.t 0), none⟩,
      ⟨some 2, .cp (.c (.str [])), none⟩,
      ⟨some 3, .cp (.c (.int .i64 0)), none⟩]) (
  .seq (.seq (.reg [⟨some 7, .ld (some 8) (.t 1), none⟩,
      ⟨some 8, .call 33 [.t 7], none⟩,
      ⟨some 9, .un .not (.t 8), none⟩]) (
  .cond (.t 9) (
    .seq (.reg [⟨some 2, .cp (.c (.str [])), none⟩,
        ⟨some 3, .cp (.c (.int .i64 1)), none⟩]) (
    .ret)) (
    .skip))) (
  .seq (.reg [⟨some 4, .cp (.c (.int .u64 0)), none⟩]) (
  .seq (.seq (.reg [⟨some 10, .fa 6 (.t 1), none⟩,
      ⟨some 11, .ld none (.t 10), none⟩]) (
  .cond (.t 11) (
    .reg [⟨some 4, .cp (.c (.int .u64 1)), none⟩]) (
    .skip))) (
  .seq (.reg [⟨some 13, .fa 7 (.t 1), none⟩,
      ⟨some 14, .ld none (.t 13), none⟩,
      ⟨some 15, .call 101 [.t 14], none⟩,
      ⟨some 12, .tk 15, none⟩,
      ⟨some 16, .ext (.t 12) 0, none⟩,
      ⟨some 17, .ext (.t 12) 1, none⟩,
      ⟨some 5, .cp (.t 16), none⟩,
      ⟨some 6, .cp (.t 17), none⟩]) (
  .seq (.drw [⟨some 18, .fa 0 (.t 1), none⟩,
      ⟨some 19, .ld none (.t 18), none⟩,
      ⟨some 20, .cv (.int .u64) (.t 19), none⟩,
      ⟨some 21, .call 80 [.t 20, .c (.int .i64 1)], none⟩,
      ⟨some 22, .fa 1 (.t 1), none⟩,
      ⟨some 23, .ld (some 4) (.t 22), none⟩,
      ⟨some 24, .call 81 [.t 23], none⟩,
      ⟨some 25, .bin .add (.t 21) (.t 24), none⟩,
      ⟨some 26, .fa 5 (.t 1), none⟩,
      ⟨some 27, .ld none (.t 26), none⟩,
      ⟨some 28, .cv (.int .u64) (.t 27), none⟩,
      ⟨some 29, .call 80 [.t 28, .c (.int .i64 2)], none⟩,
      ⟨some 30, .bin .add (.t 25) (.t 29), none⟩,
      ⟨some 31, .cp (.t 4), none⟩,
      ⟨some 32, .call 80 [.t 31, .c (.int .i64 1)], none⟩,
      ⟨some 33, .bin .add (.t 30) (.t 32), none⟩,
      ⟨some 34, .cp (.t 5), none⟩,
      ⟨some 35, .bin .add (.t 33) (.t 34), none⟩,
      ⟨some 2, .cp (.t 35), none⟩,
      ⟨some 3, .cp (.c (.int .i64 0)), none⟩] []) (
  .ret))))))
def af29 : AFn := ⟨36, 1, [.t 2, .t 3], a29⟩
theorem ak29 : chkF Try.prog 29 af29 = true := by kernel_rfl

-- f30 fingerpost/part.Read  boxes 3 notes ["Op.call 'call'"]
def a30 : AC := .seq (.reg [⟨some 2, .alloc 0 8 [.int .i64 0, .int .u32 0, .int .u32 0, .int .u32 0, .int .u32 0, .int .i64 0, .bool false, .sl .own 4 []], none⟩,
      ⟨some 3, .cp (.c (.int .i64 0)), none⟩]) (
  .seq (.seq (.reg [⟨some 13, .cp (.t 0), none⟩,
      ⟨some 14, .lenS (.t 13), none⟩,
      ⟨some 15, .bin .lss (.t 14) (.c (.int .i64 20)), none⟩]) (
  .cond (.t 15) (
    .seq (.reg [⟨some 16, .bld [.int .i64 0, .int .u32 0, .int .u32 0, .int .u32 0, .int .u32 0, .int .i64 0, .bool false, .sl .own 4 []] [], none⟩,
        ⟨none, .st 8 (.t 2) (.t 16), none⟩,
        ⟨some 3, .cp (.c (.int .i64 2)), none⟩]) (
    .ret)) (
    .skip))) (
  .seq (.seq (.reg [⟨some 17, .cp (.t 0), none⟩,
      ⟨some 18, .lenS (.t 17), none⟩,
      ⟨some 19, .bin .sub (.t 18) (.c (.int .i64 20)), none⟩,
      ⟨some 20, .bin .gtr (.t 19) (.c (.int .i64 40)), none⟩]) (
  .cond (.t 20) (
    .seq (.reg [⟨some 21, .bld [.int .i64 0, .int .u32 0, .int .u32 0, .int .u32 0, .int .u32 0, .int .i64 0, .bool false, .sl .own 4 []] [], none⟩,
        ⟨none, .st 8 (.t 2) (.t 21), none⟩,
        ⟨some 3, .cp (.c (.int .i64 4)), none⟩]) (
    .ret)) (
    .skip))) (
  .seq (.reg [⟨some 23, .cp (.t 0), none⟩,
      ⟨some 24, .subS (.t 23) (some (.c (.int .i64 20))) none, none⟩,
      ⟨some 25, .call 24 [.t 24], none⟩,
      ⟨some 22, .tk 25, none⟩,
      ⟨some 26, .extt 22 0, none⟩,
      ⟨some 27, .ext (.t 22) 1, none⟩,
      ⟨some 4, .tk 26, none⟩,
      ⟨some 5, .cp (.t 27), none⟩]) (
  .seq (.seq (.reg [⟨some 28, .cp (.t 5), none⟩,
      ⟨some 29, .bin .neq (.t 28) (.c (.int .i64 0)), none⟩]) (
  .cond (.t 29) (
    .seq (.reg [⟨some 30, .bld [.int .i64 0, .int .u32 0, .int .u32 0, .int .u32 0, .int .u32 0, .int .i64 0, .bool false, .sl .own 4 []] [], none⟩,
        ⟨some 31, .cp (.t 5), none⟩,
        ⟨none, .st 8 (.t 2) (.t 30), none⟩,
        ⟨some 3, .cp (.t 31), none⟩]) (
    .ret)) (
    .skip))) (
  .seq (.drw [⟨some 32, .cp (.t 0), none⟩,
      ⟨some 33, .ixS (.t 32) (.c (.int .i64 0)), none⟩,
      ⟨some 34, .cv (.int .i64) (.t 33), none⟩,
      ⟨some 35, .cp (.t 0), none⟩,
      ⟨some 36, .ixS (.t 35) (.c (.int .i64 19)), none⟩,
      ⟨some 6, .cp (.t 34), none⟩,
      ⟨some 7, .cp (.t 36), none⟩] []) (
  .seq (.seq (.reg [⟨some 37, .cp (.t 7), none⟩,
      ⟨some 38, .bin .gtr (.t 37) (.c (.int .u8 1)), none⟩,
      ⟨some 39, .cp (.t 38), none⟩,
      ⟨some 40, .cp (.t 6), some (39, false)⟩,
      ⟨some 41, .call 88 [.t 40], some (39, false)⟩,
      ⟨some 42, .un .not (.t 41), some (39, false)⟩,
      ⟨some 43, .pick (.t 39) (.c (.bool true)) (.t 42), none⟩]) (
  .cond (.t 43) (
    .seq (.reg [⟨some 44, .bld [.int .i64 0, .int .u32 0, .int .u32 0, .int .u32 0, .int .u32 0, .int .i64 0, .bool false, .sl .own 4 []] [], none⟩,
        ⟨none, .st 8 (.t 2) (.t 44), none⟩,
        ⟨some 3, .cp (.c (.int .i64 3)), none⟩]) (
    .ret)) (
    .skip))) (
  .seq (.reg [⟨some 46, .cp (.t 0), none⟩,
      ⟨some 47, .subS (.t 46) (some (.c (.int .i64 1))) (some (.c (.int .i64 20))), none⟩,
      ⟨some 48, .call 83 [.t 47], none⟩,
      ⟨some 45, .tk 48, none⟩,
      ⟨some 49, .ext (.t 45) 0, none⟩,
      ⟨some 50, .ext (.t 45) 1, none⟩,
      ⟨some 51, .ext (.t 45) 2, none⟩,
      ⟨some 8, .alloc 1 4 [.int .u32 0, .int .u32 0, .int .u32 0, .int .u32 0], none⟩,
      ⟨none, .st 4 (.t 8) (.t 49), none⟩,
      ⟨some 9, .cp (.t 50), none⟩,
      ⟨some 5, .cp (.t 51), none⟩]) (
  .seq (.seq (.reg [⟨some 52, .cp (.t 5), none⟩,
      ⟨some 53, .bin .neq (.t 52) (.c (.int .i64 0)), none⟩]) (
  .cond (.t 53) (
    .seq (.reg [⟨some 54, .bld [.int .i64 0, .int .u32 0, .int .u32 0, .int .u32 0, .int .u32 0, .int .i64 0, .bool false, .sl .own 4 []] [], none⟩,
        ⟨some 55, .cp (.t 5), none⟩,
        ⟨none, .st 8 (.t 2) (.t 54), none⟩,
        ⟨some 3, .cp (.t 55), none⟩]) (
    .ret)) (
    .skip))) (
  .seq (.reg [⟨some 57, .cp (.t 9), none⟩,
      ⟨some 58, .call 82 [.t 57, .c (.int .i64 2)], none⟩,
      ⟨some 56, .tk 58, none⟩,
      ⟨some 59, .ext (.t 56) 0, none⟩,
      ⟨some 60, .ext (.t 56) 1, none⟩,
      ⟨some 61, .ext (.t 56) 2, none⟩,
      ⟨some 10, .cp (.t 59), none⟩,
      ⟨some 11, .cp (.t 60), none⟩,
      ⟨some 5, .cp (.t 61), none⟩]) (
  .seq (.seq (.reg [⟨some 62, .cp (.t 5), none⟩,
      ⟨some 63, .bin .neq (.t 62) (.c (.int .i64 0)), none⟩]) (
  .cond (.t 63) (
    .seq (.reg [⟨some 64, .bld [.int .i64 0, .int .u32 0, .int .u32 0, .int .u32 0, .int .u32 0, .int .i64 0, .bool false, .sl .own 4 []] [], none⟩,
        ⟨some 65, .cp (.t 5), none⟩,
        ⟨none, .st 8 (.t 2) (.t 64), none⟩,
        ⟨some 3, .cp (.t 65), none⟩]) (
    .ret)) (
    .skip))) (
  .seq (.reg [⟨some 66, .cp (.t 6), none⟩,
      ⟨some 67, .ld (some 4) (.t 8), none⟩,
      ⟨some 68, .cp (.t 10), none⟩,
      ⟨some 69, .cv (.int .i64) (.t 68), none⟩,
      ⟨some 70, .cp (.t 7), none⟩,
      ⟨some 71, .bin .eql (.t 70) (.c (.int .u8 1)), none⟩,
      ⟨some 72, .bld [.int .i64 0, .int .u32 0, .int .u32 0, .int .u32 0, .int .u32 0, .int .i64 0, .bool false, .sl .own 4 []] [(0, 1, .t 66), (1, 4, .t 67), (5, 1, .t 69), (6, 1, .t 71)], none⟩,
      ⟨some 12, .alloc 2 8 [.int .i64 0, .int .u32 0, .int .u32 0, .int .u32 0, .int .u32 0, .int .i64 0, .bool false, .sl .own 4 []], none⟩,
      ⟨none, .st 8 (.t 12) (.t 72), none⟩]) (
  .seq (.seq (.reg [⟨some 73, .cp (.t 4), none⟩,
      ⟨some 74, .len (.t 73), none⟩,
      ⟨some 75, .bin .gtr (.t 74) (.c (.int .i64 0)), none⟩]) (
  .cond (.t 75) (
    .cpy 4 32 [.int .i64 0, .int .i64 0, .int .u32 0, .int .i64 0] 7 12 4 76 77 78 79 80 81 82 83) (
    .skip))) (
  .seq (.reg [⟨some 84, .ld (some 8) (.t 12), none⟩,
      ⟨none, .st 8 (.t 2) (.t 84), none⟩,
      ⟨some 3, .cp (.c (.int .i64 0)), none⟩]) (
  .ret))))))))))))))
def af30 : AFn := ⟨85, 3, [.c 2 (some 8), .t 3], a30⟩
theorem ak30 : chkF Try.prog 30 af30 = true := by kernel_rfl

-- f31 fingerpost/fingerpostref08.Read  boxes 2 notes []
def a31 : AC := .seq (.reg [⟨some 2, .alloc 0 8 [.int .i64 0, .int .u32 0, .int .u32 0, .int .u32 0, .int .u32 0, .int .i64 0, .bool false, .sl .own 4 []], none⟩,
      ⟨some 3, .cp (.c (.int .i64 0)), none⟩]) (
  .seq (.seq (.reg [⟨some 14, .cp (.t 0), none⟩,
      ⟨some 15, .lenS (.t 14), none⟩,
      ⟨some 16, .bin .lss (.t 15) (.c (.int .i64 20)), none⟩]) (
  .cond (.t 16) (
    .seq (.reg [⟨some 17, .bld [.int .i64 0, .int .u32 0, .int .u32 0, .int .u32 0, .int .u32 0, .int .i64 0, .bool false, .sl .own 4 []] [], none⟩,
        ⟨none, .st 8 (.t 2) (.t 17), none⟩,
        ⟨some 3, .cp (.c (.int .i64 2)), none⟩]) (
    .ret)) (
    .skip))) (
  .seq (.reg [⟨some 19, .cp (.t 0), none⟩,
      ⟨some 20, .call 85 [.t 19, .c (.int .i64 1)], none⟩,
      ⟨some 18, .tk 20, none⟩,
      ⟨some 21, .ext (.t 18) 0, none⟩,
      ⟨some 22, .ext (.t 18) 1, none⟩,
      ⟨some 23, .ext (.t 18) 2, none⟩,
      ⟨some 4, .cp (.t 21), none⟩,
      ⟨some 0, .cp (.t 22), none⟩,
      ⟨some 5, .cp (.t 23), none⟩]) (
  .seq (.reg [⟨some 25, .cp (.t 0), none⟩,
      ⟨some 26, .call 86 [.t 25], none⟩,
      ⟨some 24, .tk 26, none⟩,
      ⟨some 27, .ext (.t 24) 0, none⟩,
      ⟨some 28, .ext (.t 24) 1, none⟩,
      ⟨some 29, .ext (.t 24) 2, none⟩,
      ⟨some 6, .alloc 1 4 [.int .u32 0, .int .u32 0, .int .u32 0, .int .u32 0], none⟩,
      ⟨none, .st 4 (.t 6) (.t 27), none⟩,
      ⟨some 0, .cp (.t 28), none⟩,
      ⟨some 7, .cp (.t 29), none⟩]) (
  .seq (.reg [⟨some 31, .cp (.t 0), none⟩,
      ⟨some 32, .call 85 [.t 31, .c (.int .i64 2)], none⟩,
      ⟨some 30, .tk 32, none⟩,
      ⟨some 33, .ext (.t 30) 0, none⟩,
      ⟨some 34, .ext (.t 30) 1, none⟩,
      ⟨some 35, .ext (.t 30) 2, none⟩,
      ⟨some 8, .cp (.t 33), none⟩,
      ⟨some 0, .cp (.t 34), none⟩,
      ⟨some 9, .cp (.t 35), none⟩]) (
  .seq (.reg [⟨some 37, .cp (.t 0), none⟩,
      ⟨some 38, .call 85 [.t 37, .c (.int .i64 1)], none⟩,
      ⟨some 36, .tk 38, none⟩,
      ⟨some 39, .ext (.t 36) 0, none⟩,
      ⟨some 40, .ext (.t 36) 1, none⟩,
      ⟨some 41, .ext (.t 36) 2, none⟩,
      ⟨some 10, .cp (.t 39), none⟩,
      ⟨some 0, .cp (.t 40), none⟩,
      ⟨some 11, .cp (.t 41), none⟩]) (
  .seq (.seq (.reg [⟨some 42, .cp (.t 0), none⟩,
      ⟨some 43, .lenS (.t 42), none⟩,
      ⟨some 44, .bin .gtr (.t 43) (.c (.int .i64 40)), none⟩]) (
  .cond (.t 44) (
    .seq (.reg [⟨some 45, .bld [.int .i64 0, .int .u32 0, .int .u32 0, .int .u32 0, .int .u32 0, .int .i64 0, .bool false, .sl .own 4 []] [], none⟩,
        ⟨none, .st 8 (.t 2) (.t 45), none⟩,
        ⟨some 3, .cp (.c (.int .i64 4)), none⟩]) (
    .ret)) (
    .skip))) (
  .seq (.reg [⟨some 47, .cp (.t 0), none⟩,
      ⟨some 48, .call 102 [.t 47], none⟩,
      ⟨some 46, .tk 48, none⟩,
      ⟨some 49, .extt 46 0, none⟩,
      ⟨some 50, .ext (.t 46) 1, none⟩,
      ⟨some 12, .tk 49, none⟩,
      ⟨some 13, .cp (.t 50), none⟩]) (
  .seq (.seq (.reg [⟨some 51, .cp (.t 13), none⟩,
      ⟨some 52, .bin .neq (.t 51) (.c (.int .i64 0)), none⟩]) (
  .cond (.t 52) (
    .seq (.reg [⟨some 53, .bld [.int .i64 0, .int .u32 0, .int .u32 0, .int .u32 0, .int .u32 0, .int .i64 0, .bool false, .sl .own 4 []] [], none⟩,
        ⟨some 54, .cp (.t 13), none⟩,
        ⟨none, .st 8 (.t 2) (.t 53), none⟩,
        ⟨some 3, .cp (.t 54), none⟩]) (
    .ret)) (
    .skip))) (
  .seq (.seq (.reg [⟨some 55, .cp (.t 10), none⟩,
      ⟨some 56, .bin .gtr (.t 55) (.c (.int .u64 1)), none⟩,
      ⟨some 57, .cp (.t 56), none⟩,
      ⟨some 58, .cp (.t 4), some (57, false)⟩,
      ⟨some 59, .cv (.int .i64) (.t 58), some (57, false)⟩,
      ⟨some 60, .call 90 [.t 59], some (57, false)⟩,
      ⟨some 61, .un .not (.t 60), some (57, false)⟩,
      ⟨some 62, .pick (.t 57) (.c (.bool true)) (.t 61), none⟩]) (
  .cond (.t 62) (
    .seq (.reg [⟨some 63, .bld [.int .i64 0, .int .u32 0, .int .u32 0, .int .u32 0, .int .u32 0, .int .i64 0, .bool false, .sl .own 4 []] [], none⟩,
        ⟨none, .st 8 (.t 2) (.t 63), none⟩,
        ⟨some 3, .cp (.c (.int .i64 3)), none⟩]) (
    .ret)) (
    .skip))) (
  .seq (.reg [⟨some 64, .cp (.t 4), none⟩,
      ⟨some 65, .cv (.int .i64) (.t 64), none⟩,
      ⟨some 66, .ld (some 4) (.t 6), none⟩,
      ⟨some 67, .cp (.t 8), none⟩,
      ⟨some 68, .cv (.int .i64) (.t 67), none⟩,
      ⟨some 69, .cp (.t 10), none⟩,
      ⟨some 70, .bin .eql (.t 69) (.c (.int .u64 1)), none⟩,
      ⟨some 71, .tk 12, none⟩,
      ⟨some 72, .bld [.int .i64 0, .int .u32 0, .int .u32 0, .int .u32 0, .int .u32 0, .int .i64 0, .bool false, .sl .own 4 []] [(0, 1, .t 65), (1, 4, .t 66), (5, 1, .t 68), (6, 1, .t 70), (7, 1, .t 71)], none⟩,
      ⟨none, .st 8 (.t 2) (.t 72), none⟩,
      ⟨some 3, .cp (.c (.int .i64 0)), none⟩]) (
  .ret)))))))))))
def af31 : AFn := ⟨73, 2, [.c 2 (some 8), .t 3], a31⟩
theorem ak31 : chkF Try.prog 31 af31 = true := by kernel_rfl

-- f32 fingerpost/part.Right  boxes 1 notes []
def a32 : AC := .seq (.reg [⟨some 1, .box 0 8 (.t 0), none⟩,
      ⟨some 2, .cp (.c (.bool false)), none⟩]) (
  .seq (.reg [⟨some 6, .fa 7 (.t 1), none⟩,
      ⟨some 7, .ld none (.t 6), none⟩,
      ⟨some 8, .call 99 [.t 7], none⟩,
      ⟨some 5, .tk 8, none⟩,
      ⟨some 9, .ext (.t 5) 0, none⟩,
      ⟨some 10, .ext (.t 5) 1, none⟩,
      ⟨some 3, .cp (.t 9), none⟩,
      ⟨some 4, .cp (.t 10), none⟩]) (
  .seq (.reg [⟨some 11, .cp (.t 4), none⟩,
      ⟨some 12, .cp (.t 11), none⟩,
      ⟨some 13, .fa 0 (.t 1), some (12, true)⟩,
      ⟨some 14, .ld none (.t 13), some (12, true)⟩,
      ⟨some 15, .call 88 [.t 14], some (12, true)⟩,
      ⟨some 16, .pick (.t 12) (.t 15) (.c (.bool false)), none⟩,
      ⟨some 17, .cp (.t 16), none⟩,
      ⟨some 18, .fa 5 (.t 1), some (17, true)⟩,
      ⟨some 19, .ld none (.t 18), some (17, true)⟩,
      ⟨some 20, .bin .geq (.t 19) (.c (.int .i64 0)), some (17, true)⟩,
      ⟨some 21, .pick (.t 17) (.t 20) (.c (.bool false)), none⟩,
      ⟨some 22, .cp (.t 21), none⟩,
      ⟨some 23, .fa 5 (.t 1), some (22, true)⟩,
      ⟨some 24, .ld none (.t 23), some (22, true)⟩,
      ⟨some 25, .bin .leq (.t 24) (.c (.int .i64 65535)), some (22, true)⟩,
      ⟨some 26, .pick (.t 22) (.t 25) (.c (.bool false)), none⟩,
      ⟨some 2, .cp (.t 26), none⟩]) (
  .ret)))
def af32 : AFn := ⟨27, 1, [.t 2], a32⟩
theorem ak32 : chkF Try.prog 32 af32 = true := by kernel_rfl

-- f33 fingerpost/fingerpostref08.Right  boxes 1 notes []
def a33 : AC := .seq (.reg [⟨some 1, .box 0 8 (.t 0), none⟩,
      ⟨some 2, .cp (.c (.bool false)), none⟩]) (
  .seq (.reg [⟨some 6, .fa 7 (.t 1), none⟩,
      ⟨some 7, .ld none (.t 6), none⟩,
      ⟨some 8, .call 101 [.t 7], none⟩,
      ⟨some 5, .tk 8, none⟩,
      ⟨some 9, .ext (.t 5) 0, none⟩,
      ⟨some 10, .ext (.t 5) 1, none⟩,
      ⟨some 3, .cp (.t 9), none⟩,
      ⟨some 4, .cp (.t 10), none⟩]) (
  .seq (.reg [⟨some 11, .cp (.t 4), none⟩,
      ⟨some 12, .bin .eql (.t 11) (.c (.int .i64 0)), none⟩,
      ⟨some 13, .cp (.t 12), none⟩,
      ⟨some 14, .cp (.t 3), some (13, true)⟩,
      ⟨some 15, .lenS (.t 14), some (13, true)⟩,
      ⟨some 16, .bin .leq (.t 15) (.c (.int .i64 40)), some (13, true)⟩,
      ⟨some 17, .pick (.t 13) (.t 16) (.c (.bool false)), none⟩,
      ⟨some 18, .cp (.t 17), none⟩,
      ⟨some 19, .fa 0 (.t 1), some (18, true)⟩,
      ⟨some 20, .ld none (.t 19), some (18, true)⟩,
      ⟨some 21, .call 90 [.t 20], some (18, true)⟩,
      ⟨some 22, .pick (.t 18) (.t 21) (.c (.bool false)), none⟩,
      ⟨some 23, .cp (.t 22), none⟩,
      ⟨some 24, .fa 5 (.t 1), some (23, true)⟩,
      ⟨some 25, .ld none (.t 24), some (23, true)⟩,
      ⟨some 26, .bin .geq (.t 25) (.c (.int .i64 0)), some (23, true)⟩,
      ⟨some 27, .pick (.t 23) (.t 26) (.c (.bool false)), none⟩,
      ⟨some 28, .cp (.t 27), none⟩,
      ⟨some 29, .fa 5 (.t 1), some (28, true)⟩,
      ⟨some 30, .ld none (.t 29), some (28, true)⟩,
      ⟨some 31, .bin .leq (.t 30) (.c (.int .i64 65535)), some (28, true)⟩,
      ⟨some 32, .pick (.t 28) (.t 31) (.c (.bool false)), none⟩,
      ⟨some 2, .cp (.t 32), none⟩]) (
  .ret)))
def af33 : AFn := ⟨33, 1, [.t 2], a33⟩
theorem ak33 : chkF Try.prog 33 af33 = true := by kernel_rfl

-- f34 fingerpost/fingerpostref08.Same  boxes 2 notes []
def a34_l0 : AC := .seq (.reg [⟨some 45, .bin .lss (.t 44) (.t 43), none⟩]) (
  .seq (.cond (.t 45) (
    .skip) (
    .exit 0)) (
  .seq (.block 1 (
    .seq (.reg [⟨some 46, .cp (.t 44), none⟩,
        ⟨some 5, .cp (.t 46), none⟩]) (
    .seq (.drw [⟨some 47, .fa 7 (.t 2), none⟩,
        ⟨some 48, .ld none (.t 47), none⟩,
        ⟨some 49, .cp (.t 5), none⟩,
        ⟨some 50, .iaE 4 (.t 48) (.t 49), none⟩,
        ⟨some 51, .ld (some 4) (.t 50), none⟩,
        ⟨some 52, .fa 7 (.t 3), none⟩,
        ⟨some 53, .ld none (.t 52), none⟩,
        ⟨some 54, .cp (.t 5), none⟩,
        ⟨some 55, .iaE 4 (.t 53) (.t 54), none⟩,
        ⟨some 56, .ld (some 4) (.t 55), none⟩,
        ⟨some 57, .eqA true [.i, .i, .i, .i] (.t 51) (.t 56), none⟩] []) (
    .cond (.t 57) (
      .seq (.reg [⟨some 4, .cp (.c (.bool false)), none⟩]) (
      .ret)) (
      .skip))))) (
  .reg [⟨some 58, .bin .add (.t 44) (.c (.int .i64 1)), none⟩,
      ⟨some 44, .cp (.t 58), none⟩])))
def a34 : AC := .seq (.reg [⟨some 2, .box 0 8 (.t 0), none⟩,
      ⟨some 3, .box 1 8 (.t 1), none⟩,
      ⟨some 4, .cp (.c (.bool false)), none⟩]) (
  .seq (.seq (.reg [⟨some 6, .fa 0 (.t 2), none⟩,
      ⟨some 7, .ld none (.t 6), none⟩,
      ⟨some 8, .fa 0 (.t 3), none⟩,
      ⟨some 9, .ld none (.t 8), none⟩,
      ⟨some 10, .bin .neq (.t 7) (.t 9), none⟩,
      ⟨some 11, .cp (.t 10), none⟩,
      ⟨some 12, .fa 1 (.t 2), some (11, false)⟩,
      ⟨some 13, .ld (some 4) (.t 12), some (11, false)⟩,
      ⟨some 14, .fa 1 (.t 3), some (11, false)⟩,
      ⟨some 15, .ld (some 4) (.t 14), some (11, false)⟩,
      ⟨some 16, .eqA true [.i, .i, .i, .i] (.t 13) (.t 15), some (11, false)⟩,
      ⟨some 17, .pick (.t 11) (.c (.bool true)) (.t 16), none⟩,
      ⟨some 18, .cp (.t 17), none⟩,
      ⟨some 19, .fa 5 (.t 2), some (18, false)⟩,
      ⟨some 20, .ld none (.t 19), some (18, false)⟩,
      ⟨some 21, .fa 5 (.t 3), some (18, false)⟩,
      ⟨some 22, .ld none (.t 21), some (18, false)⟩,
      ⟨some 23, .bin .neq (.t 20) (.t 22), some (18, false)⟩,
      ⟨some 24, .pick (.t 18) (.c (.bool true)) (.t 23), none⟩,
      ⟨some 25, .cp (.t 24), none⟩,
      ⟨some 26, .fa 6 (.t 2), some (25, false)⟩,
      ⟨some 27, .ld none (.t 26), some (25, false)⟩,
      ⟨some 28, .fa 6 (.t 3), some (25, false)⟩,
      ⟨some 29, .ld none (.t 28), some (25, false)⟩,
      ⟨some 30, .eqB true (.t 27) (.t 29), some (25, false)⟩,
      ⟨some 31, .pick (.t 25) (.c (.bool true)) (.t 30), none⟩,
      ⟨some 32, .cp (.t 31), none⟩,
      ⟨some 33, .fa 7 (.t 2), some (32, false)⟩,
      ⟨some 34, .ld none (.t 33), some (32, false)⟩,
      ⟨some 35, .len (.t 34), some (32, false)⟩,
      ⟨some 36, .fa 7 (.t 3), some (32, false)⟩,
      ⟨some 37, .ld none (.t 36), some (32, false)⟩,
      ⟨some 38, .len (.t 37), some (32, false)⟩,
      ⟨some 39, .bin .neq (.t 35) (.t 38), some (32, false)⟩,
      ⟨some 40, .pick (.t 32) (.c (.bool true)) (.t 39), none⟩]) (
  .cond (.t 40) (
    .seq (.reg [⟨some 4, .cp (.c (.bool false)), none⟩]) (
    .ret)) (
    .skip))) (
  .seq (.seq (.reg [⟨some 41, .fa 7 (.t 2), none⟩,
      ⟨some 42, .ld none (.t 41), none⟩,
      ⟨some 43, .len (.t 42), none⟩,
      ⟨some 44, .cp (.c (.int .i64 0)), none⟩]) (
  .block 0 (
    .loop [false, false, false, false, true, true, false, false, false, false, false, false, false, false, false, false, false, false, false, false, false, false, false, false, false, false, false, false, false, false, false, false, false, false, false, false, false, false, false, false, false, false, false, false, false, true, true, true, true, true, true, true, true, true, true, true, true, true, true] [] a34_l0))) (
  .seq (.reg [⟨some 4, .cp (.c (.bool true)), none⟩]) (
  .ret))))
def af34 : AFn := ⟨59, 2, [.t 4], a34⟩
theorem ak34 : chkF Try.prog 34 af34 = true := by kernel_rfl

-- f35 fingerpost/part.Same  boxes 2 notes []
def a35 : AC := .seq (.reg [⟨some 2, .box 0 8 (.t 0), none⟩,
      ⟨some 3, .box 1 8 (.t 1), none⟩,
      ⟨some 4, .cp (.c (.bool false)), none⟩]) (
  .seq (.reg [⟨some 5, .fa 0 (.t 2), none⟩,
      ⟨some 6, .ld none (.t 5), none⟩,
      ⟨some 7, .fa 0 (.t 3), none⟩,
      ⟨some 8, .ld none (.t 7), none⟩,
      ⟨some 9, .bin .eql (.t 6) (.t 8), none⟩,
      ⟨some 10, .cp (.t 9), none⟩,
      ⟨some 11, .fa 1 (.t 2), some (10, true)⟩,
      ⟨some 12, .ld (some 4) (.t 11), some (10, true)⟩,
      ⟨some 13, .fa 1 (.t 3), some (10, true)⟩,
      ⟨some 14, .ld (some 4) (.t 13), some (10, true)⟩,
      ⟨some 15, .eqA false [.i, .i, .i, .i] (.t 12) (.t 14), some (10, true)⟩,
      ⟨some 16, .pick (.t 10) (.t 15) (.c (.bool false)), none⟩,
      ⟨some 17, .cp (.t 16), none⟩,
      ⟨some 18, .fa 5 (.t 2), some (17, true)⟩,
      ⟨some 19, .ld none (.t 18), some (17, true)⟩,
      ⟨some 20, .fa 5 (.t 3), some (17, true)⟩,
      ⟨some 21, .ld none (.t 20), some (17, true)⟩,
      ⟨some 22, .bin .eql (.t 19) (.t 21), some (17, true)⟩,
      ⟨some 23, .pick (.t 17) (.t 22) (.c (.bool false)), none⟩,
      ⟨some 24, .cp (.t 23), none⟩,
      ⟨some 25, .fa 6 (.t 2), some (24, true)⟩,
      ⟨some 26, .ld none (.t 25), some (24, true)⟩,
      ⟨some 27, .fa 6 (.t 3), some (24, true)⟩,
      ⟨some 28, .ld none (.t 27), some (24, true)⟩,
      ⟨some 29, .eqB false (.t 26) (.t 28), some (24, true)⟩,
      ⟨some 30, .pick (.t 24) (.t 29) (.c (.bool false)), none⟩,
      ⟨some 31, .cp (.t 30), none⟩,
      ⟨some 32, .fa 7 (.t 2), some (31, true)⟩,
      ⟨some 33, .ld none (.t 32), some (31, true)⟩,
      ⟨some 34, .fa 7 (.t 3), some (31, true)⟩,
      ⟨some 35, .ld none (.t 34), some (31, true)⟩,
      ⟨some 36, .call 103 [.t 33, .t 35], some (31, true)⟩,
      ⟨some 37, .pick (.t 31) (.t 36) (.c (.bool false)), none⟩,
      ⟨some 4, .cp (.t 37), none⟩]) (
  .ret))
def af35 : AFn := ⟨38, 2, [.t 4], a35⟩
theorem ak35 : chkF Try.prog 35 af35 = true := by kernel_rfl

-- f98 fingerpost/fingerpostlaw08.some  boxes 1 notes []
def a98 : AC := .seq (.reg [⟨some 0, .alloc 0 8 [.int .i64 0, .int .u32 0, .int .u32 0, .int .u32 0, .int .u32 0, .int .i64 0, .bool false, .sl .own 4 []], none⟩]) (
  .seq (.reg [⟨some 1, .bld [.int .i64 0, .int .i64 0, .int .u32 0, .int .i64 0] [(0, 1, .c (.int .i64 2)), (2, 1, .c (.int .u32 7)), (3, 1, .c (.int .i64 1))], none⟩,
      ⟨some 2, .bs 4 [.t 1], none⟩,
      ⟨some 3, .bld [.int .i64 0, .int .u32 0, .int .u32 0, .int .u32 0, .int .u32 0, .int .i64 0, .bool false, .sl .own 4 []] [(0, 1, .c (.int .i64 1)), (5, 1, .c (.int .i64 258)), (6, 1, .c (.bool true)), (7, 1, .t 2)], none⟩,
      ⟨none, .st 8 (.t 0) (.t 3), none⟩]) (
  .ret))
def af98 : AFn := ⟨4, 1, [.c 0 (some 8)], a98⟩
theorem ak98 : chkF Try.prog 98 af98 = true := by kernel_rfl

-- f99 fingerpost/part.body  boxes 0 notes []
def a99 : AC := .seq (.reg [⟨some 2, .cp (.c (.str [])), none⟩,
      ⟨some 3, .cp (.c (.bool false)), none⟩]) (
  .seq (.reg [⟨some 7, .tk 0, none⟩,
      ⟨some 8, .call 23 [.t 7], none⟩,
      ⟨some 6, .tk 8, none⟩,
      ⟨some 9, .ext (.t 6) 0, none⟩,
      ⟨some 10, .ext (.t 6) 1, none⟩,
      ⟨some 4, .cp (.t 9), none⟩,
      ⟨some 5, .cp (.t 10), none⟩]) (
  .seq (.reg [⟨some 11, .cp (.t 4), none⟩,
      ⟨some 12, .cp (.t 5), none⟩,
      ⟨some 13, .bin .eql (.t 12) (.c (.int .i64 0)), none⟩,
      ⟨some 14, .cp (.t 13), none⟩,
      ⟨some 15, .cp (.t 4), some (14, true)⟩,
      ⟨some 16, .lenS (.t 15), some (14, true)⟩,
      ⟨some 17, .bin .leq (.t 16) (.c (.int .i64 40)), some (14, true)⟩,
      ⟨some 18, .pick (.t 14) (.t 17) (.c (.bool false)), none⟩,
      ⟨some 2, .cp (.t 11), none⟩,
      ⟨some 3, .cp (.t 18), none⟩]) (
  .ret)))
def af99 : AFn := ⟨19, 0, [.t 2, .t 3], a99⟩
theorem ak99 : chkF Try.prog 99 af99 = true := by kernel_rfl

-- f103 slices.Equal[[]fingerpost/api.Item,fingerpost/api.Item]  boxes 0 notes []
def a103_l0 : AC := .seq (.reg [⟨some 14, .bin .lss (.t 13) (.t 12), none⟩]) (
  .seq (.cond (.t 14) (
    .skip) (
    .exit 0)) (
  .seq (.block 1 (
    .seq (.reg [⟨some 15, .cp (.t 13), none⟩,
        ⟨some 5, .cp (.t 15), none⟩]) (
    .seq (.drw [⟨some 16, .cp (.t 0), none⟩,
        ⟨some 17, .cp (.t 5), none⟩,
        ⟨some 18, .iaE 4 (.t 16) (.t 17), none⟩,
        ⟨some 19, .ld (some 4) (.t 18), none⟩,
        ⟨some 20, .cp (.t 1), none⟩,
        ⟨some 21, .cp (.t 5), none⟩,
        ⟨some 22, .iaE 4 (.t 20) (.t 21), none⟩,
        ⟨some 23, .ld (some 4) (.t 22), none⟩,
        ⟨some 24, .eqA true [.i, .i, .i, .i] (.t 19) (.t 23), none⟩] []) (
    .cond (.t 24) (
      .seq (.reg [⟨some 4, .cp (.c (.bool false)), none⟩]) (
      .ret)) (
      .skip))))) (
  .reg [⟨some 25, .bin .add (.t 13) (.c (.int .i64 1)), none⟩,
      ⟨some 13, .cp (.t 25), none⟩])))
def a103 : AC := .seq (.reg [⟨some 4, .cp (.c (.bool false)), none⟩]) (
  .seq (.seq (.reg [⟨some 6, .cp (.t 0), none⟩,
      ⟨some 7, .len (.t 6), none⟩,
      ⟨some 8, .cp (.t 1), none⟩,
      ⟨some 9, .len (.t 8), none⟩,
      ⟨some 10, .bin .neq (.t 7) (.t 9), none⟩]) (
  .cond (.t 10) (
    .seq (.reg [⟨some 4, .cp (.c (.bool false)), none⟩]) (
    .ret)) (
    .skip))) (
  .seq (.seq (.reg [⟨some 11, .cp (.t 0), none⟩,
      ⟨some 12, .len (.t 11), none⟩,
      ⟨some 13, .cp (.c (.int .i64 0)), none⟩]) (
  .block 0 (
    .loop [false, false, false, false, true, true, false, false, false, false, false, false, false, false, true, true, true, true, true, true, true, true, true, true, true, true] [] a103_l0))) (
  .seq (.reg [⟨some 4, .cp (.c (.bool true)), none⟩]) (
  .ret))))
def af103 : AFn := ⟨26, 0, [.t 4], a103⟩
theorem ak103 : chkF Try.prog 103 af103 = true := by kernel_rfl

end Go.Proofs.Ytkcdeefnkbbacaa

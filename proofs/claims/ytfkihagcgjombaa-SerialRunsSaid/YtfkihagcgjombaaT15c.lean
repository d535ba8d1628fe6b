/- The functions as data, and that they are the program's. -/
import Derived.Test.YtfkihagcgjombaaAwN
set_option maxRecDepth 100000
namespace Go.Proofs.Ytfkihagcgjombaa
open Go.RowKit
-- f5 fingerpost/serial.Next  boxes 0 notes []
def a5 : AC := .seq (.reg [⟨some 2, .cp (.c (.int .i64 0)), none⟩,
      ⟨some 3, .cp (.c (.int .i64 0)), none⟩]) (
  .seq (.seq (.reg [⟨some 4, .cp (.t 0), none⟩,
      ⟨some 5, .call 9 [.t 4], none⟩,
      ⟨some 6, .un .not (.t 5), none⟩]) (
  .cond (.t 6) (
    .seq (.reg [⟨some 2, .cp (.c (.int .i64 0)), none⟩,
        ⟨some 3, .cp (.c (.int .i64 1)), none⟩]) (
    .ret)) (
    .skip))) (
  .seq (.seq (.reg [⟨some 7, .cp (.t 0), none⟩,
      ⟨some 8, .bin .geq (.t 7) (.c (.int .i64 65000)), none⟩]) (
  .cond (.t 8) (
    .seq (.reg [⟨some 2, .cp (.c (.int .i64 0)), none⟩,
        ⟨some 3, .cp (.c (.int .i64 11)), none⟩]) (
    .ret)) (
    .skip))) (
  .seq (.reg [⟨some 9, .cp (.t 0), none⟩,
      ⟨some 10, .bin .add (.t 9) (.c (.int .i64 1)), none⟩,
      ⟨some 2, .cp (.t 10), none⟩,
      ⟨some 3, .cp (.c (.int .i64 0)), none⟩]) (
  .ret))))
def af5 : AFn := ⟨11, 0, [.t 2, .t 3], a5⟩
theorem ak5 : chkF Try.prog 5 af5 = true := by kernel_rfl

-- f6 fingerpost/fingerpostlaw15.awake  boxes 0 notes []
def a6 : AC := .seq (.reg [⟨some 0, .cp (.c (.bool false)), none⟩]) (
  .seq (.reg [⟨some 8, .call 5 [.c (.int .i64 0)], none⟩,
      ⟨some 7, .tk 8, none⟩,
      ⟨some 9, .ext (.t 7) 0, none⟩,
      ⟨some 10, .ext (.t 7) 1, none⟩,
      ⟨some 1, .cp (.t 9), none⟩,
      ⟨some 2, .cp (.t 10), none⟩]) (
  .seq (.reg [⟨some 12, .call 5 [.c (.int .i64 65000)], none⟩,
      ⟨some 11, .tk 12, none⟩,
      ⟨some 13, .ext (.t 11) 0, none⟩,
      ⟨some 14, .ext (.t 11) 1, none⟩,
      ⟨some 3, .cp (.t 13), none⟩,
      ⟨some 4, .cp (.t 14), none⟩]) (
  .seq (.reg [⟨some 16, .call 5 [.c (.int .i64 (-1))], none⟩,
      ⟨some 15, .tk 16, none⟩,
      ⟨some 17, .ext (.t 15) 0, none⟩,
      ⟨some 18, .ext (.t 15) 1, none⟩,
      ⟨some 5, .cp (.t 17), none⟩,
      ⟨some 6, .cp (.t 18), none⟩]) (
  .seq (.reg [⟨some 19, .cp (.t 1), none⟩,
      ⟨some 20, .bin .eql (.t 19) (.c (.int .i64 1)), none⟩,
      ⟨some 21, .cp (.t 20), none⟩,
      ⟨some 22, .cp (.t 2), some (21, true)⟩,
      ⟨some 23, .bin .eql (.t 22) (.c (.int .i64 0)), some (21, true)⟩,
      ⟨some 24, .pick (.t 21) (.t 23) (.c (.bool false)), none⟩,
      ⟨some 25, .cp (.t 24), none⟩,
      ⟨some 26, .cp (.t 4), some (25, true)⟩,
      ⟨some 27, .bin .eql (.t 26) (.c (.int .i64 11)), some (25, true)⟩,
      ⟨some 28, .pick (.t 25) (.t 27) (.c (.bool false)), none⟩,
      ⟨some 29, .cp (.t 28), none⟩,
      ⟨some 30, .cp (.t 6), some (29, true)⟩,
      ⟨some 31, .bin .eql (.t 30) (.c (.int .i64 1)), some (29, true)⟩,
      ⟨some 32, .pick (.t 29) (.t 31) (.c (.bool false)), none⟩,
      ⟨some 33, .cp (.t 32), none⟩,
      ⟨some 34, .call 7 [.c (.int .i64 9), .c (.int .i64 5)], some (33, true)⟩,
      ⟨some 35, .bin .eql (.t 34) (.c (.int .i64 4)), some (33, true)⟩,
      ⟨some 36, .pick (.t 33) (.t 35) (.c (.bool false)), none⟩,
      ⟨some 37, .cp (.t 36), none⟩,
      ⟨some 38, .call 7 [.c (.int .i64 5), .c (.int .i64 9)], some (37, true)⟩,
      ⟨some 39, .bin .eql (.t 38) (.c (.int .i64 (-1))), some (37, true)⟩,
      ⟨some 40, .pick (.t 37) (.t 39) (.c (.bool false)), none⟩,
      ⟨some 41, .cp (.t 40), none⟩,
      ⟨some 42, .call 8 [.c (.int .i64 7), .c (.int .i64 0)], some (41, true)⟩,
      ⟨some 43, .pick (.t 41) (.t 42) (.c (.bool false)), none⟩,
      ⟨some 44, .cp (.t 43), none⟩,
      ⟨some 45, .call 8 [.c (.int .i64 8), .c (.int .i64 0)], some (44, true)⟩,
      ⟨some 46, .un .not (.t 45), some (44, true)⟩,
      ⟨some 47, .pick (.t 44) (.t 46) (.c (.bool false)), none⟩,
      ⟨some 48, .cp (.t 47), none⟩,
      ⟨some 49, .call 9 [.c (.int .i64 65535)], some (48, true)⟩,
      ⟨some 50, .pick (.t 48) (.t 49) (.c (.bool false)), none⟩,
      ⟨some 51, .cp (.t 50), none⟩,
      ⟨some 52, .call 9 [.c (.int .i64 65536)], some (51, true)⟩,
      ⟨some 53, .un .not (.t 52), some (51, true)⟩,
      ⟨some 54, .pick (.t 51) (.t 53) (.c (.bool false)), none⟩,
      ⟨some 0, .cp (.t 54), none⟩]) (
  .ret)))))
def af6 : AFn := ⟨55, 0, [.t 0], a6⟩
theorem ak6 : chkF Try.prog 6 af6 = true := by kernel_rfl

-- f7 fingerpost/serial.Ahead  boxes 0 notes []
def a7 : AC := .seq (.reg [⟨some 4, .cp (.c (.int .i64 0)), none⟩]) (
  .seq (.seq (.reg [⟨some 5, .cp (.t 0), none⟩,
      ⟨some 6, .call 9 [.t 5], none⟩,
      ⟨some 7, .un .not (.t 6), none⟩,
      ⟨some 8, .cp (.t 7), none⟩,
      ⟨some 9, .cp (.t 1), some (8, false)⟩,
      ⟨some 10, .call 9 [.t 9], some (8, false)⟩,
      ⟨some 11, .un .not (.t 10), some (8, false)⟩,
      ⟨some 12, .pick (.t 8) (.c (.bool true)) (.t 11), none⟩,
      ⟨some 13, .cp (.t 12), none⟩,
      ⟨some 14, .cp (.t 0), some (13, false)⟩,
      ⟨some 15, .cp (.t 1), some (13, false)⟩,
      ⟨some 16, .bin .lss (.t 14) (.t 15), some (13, false)⟩,
      ⟨some 17, .pick (.t 13) (.c (.bool true)) (.t 16), none⟩]) (
  .cond (.t 17) (
    .seq (.reg [⟨some 4, .cp (.c (.int .i64 (-1))), none⟩]) (
    .ret)) (
    .skip))) (
  .seq (.reg [⟨some 18, .cp (.t 0), none⟩,
      ⟨some 19, .cp (.t 1), none⟩,
      ⟨some 20, .bin .sub (.t 18) (.t 19), none⟩,
      ⟨some 4, .cp (.t 20), none⟩]) (
  .ret)))
def af7 : AFn := ⟨21, 0, [.t 4], a7⟩
theorem ak7 : chkF Try.prog 7 af7 = true := by kernel_rfl

-- f8 fingerpost/serial.Near  boxes 0 notes []
def a8 : AC := .seq (.reg [⟨some 4, .cp (.c (.bool false)), none⟩]) (
  .seq (.reg [⟨some 6, .cp (.t 0), none⟩,
      ⟨some 7, .cp (.t 1), none⟩,
      ⟨some 8, .call 7 [.t 6, .t 7], none⟩,
      ⟨some 5, .cp (.t 8), none⟩]) (
  .seq (.reg [⟨some 9, .cp (.t 5), none⟩,
      ⟨some 10, .bin .geq (.t 9) (.c (.int .i64 0)), none⟩,
      ⟨some 11, .cp (.t 10), none⟩,
      ⟨some 12, .cp (.t 5), some (11, true)⟩,
      ⟨some 13, .bin .lss (.t 12) (.c (.int .i64 8)), some (11, true)⟩,
      ⟨some 14, .pick (.t 11) (.t 13) (.c (.bool false)), none⟩,
      ⟨some 4, .cp (.t 14), none⟩]) (
  .ret)))
def af8 : AFn := ⟨15, 0, [.t 4], a8⟩
theorem ak8 : chkF Try.prog 8 af8 = true := by kernel_rfl

-- f9 fingerpost/serial.Right  boxes 0 notes []
def a9 : AC := .seq (.reg [⟨some 2, .cp (.c (.bool false)), none⟩]) (
  .seq (.reg [⟨some 3, .cp (.t 0), none⟩,
      ⟨some 4, .bin .geq (.t 3) (.c (.int .i64 0)), none⟩,
      ⟨some 5, .cp (.t 4), none⟩,
      ⟨some 6, .cp (.t 0), some (5, true)⟩,
      ⟨some 7, .bin .leq (.t 6) (.c (.int .i64 65535)), some (5, true)⟩,
      ⟨some 8, .pick (.t 5) (.t 7) (.c (.bool false)), none⟩,
      ⟨some 2, .cp (.t 8), none⟩]) (
  .ret))
def af9 : AFn := ⟨9, 0, [.t 2], a9⟩
theorem ak9 : chkF Try.prog 9 af9 = true := by kernel_rfl

-- f10 fingerpost/serial.Runs  boxes 1 notes []
def a10_j0 : AC := .seq .skip (.seq (.seq (.reg [⟨some 10, .cp (.t 5), none⟩,
      ⟨some 11, .cp (.t 3), none⟩,
      ⟨some 12, .len (.t 11), none⟩,
      ⟨some 13, .bin .geq (.t 10) (.t 12), none⟩,
      ⟨some 14, .cp (.t 13), none⟩,
      ⟨some 15, .cp (.t 4), some (14, false)⟩,
      ⟨some 16, .len (.t 15), some (14, false)⟩,
      ⟨some 17, .bin .geq (.t 16) (.c (.int .i64 64)), some (14, false)⟩,
      ⟨some 18, .pick (.t 14) (.c (.bool true)) (.t 17), none⟩]) (
  .cond (.t 18) (
    .seq (.reg [⟨some 19, .cp (.t 4), none⟩,
        ⟨some 2, .cp (.t 19), none⟩]) (
    .frz 0 2 (.ret))) (
    .skip))) (
  .seq (.reg [⟨some 20, .cp (.t 3), none⟩,
      ⟨some 21, .cp (.t 5), none⟩,
      ⟨some 22, .iaE 1 (.t 20) (.t 21), none⟩,
      ⟨some 23, .ld none (.t 22), none⟩,
      ⟨some 24, .cp (.t 4), none⟩,
      ⟨some 25, .len (.t 24), none⟩,
      ⟨some 26, .bin .sub (.t 25) (.c (.int .i64 1)), none⟩,
      ⟨some 6, .cp (.t 23), none⟩,
      ⟨some 7, .cp (.t 26), none⟩]) (
  .seq (.seq (.reg [⟨some 27, .cp (.t 7), none⟩,
      ⟨some 28, .bin .geq (.t 27) (.c (.int .i64 0)), none⟩,
      ⟨some 29, .cp (.t 28), none⟩,
      ⟨some 30, .cp (.t 4), some (29, true)⟩,
      ⟨some 31, .cp (.t 7), some (29, true)⟩,
      ⟨some 32, .ia 2 none (.t 30) (.t 31), some (29, true)⟩,
      ⟨some 33, .ia 1 (some 2) (.t 32) (.c (.int .i64 1)), some (29, true)⟩,
      ⟨some 34, .ldr none (.t 33), some (29, true)⟩,
      ⟨some 35, .bin .add (.t 34) (.c (.int .i64 1)), some (29, true)⟩,
      ⟨some 36, .cp (.t 6), some (29, true)⟩,
      ⟨some 37, .bin .eql (.t 35) (.t 36), some (29, true)⟩,
      ⟨some 38, .pick (.t 29) (.t 37) (.c (.bool false)), none⟩]) (
  .cond (.t 38) (
    .reg [⟨some 39, .cp (.t 4), none⟩,
        ⟨some 40, .cp (.t 7), none⟩,
        ⟨some 41, .cp (.t 6), none⟩,
        ⟨some 42, .ia 2 none (.t 39) (.t 40), none⟩,
        ⟨some 43, .ia 1 (some 2) (.t 42) (.c (.int .i64 1)), none⟩,
        ⟨none, .sto 1 (.t 43) (.t 41), none⟩]) (
    .grw [⟨some 44, .cp (.t 4), none⟩,
        ⟨some 45, .cp (.t 6), none⟩,
        ⟨some 46, .cp (.t 6), none⟩,
        ⟨some 47, .bld [.int .i64 0, .int .i64 0] [(0, 1, .t 45), (1, 1, .t 46)], none⟩,
        ⟨some 48, .bs 2 [.t 47], none⟩] 49 44 0 2 16 (.t 48) [⟨some 4, .cp (.t 49), none⟩]))) (
  .seq (.reg [⟨some 50, .cp (.t 5), none⟩,
      ⟨some 51, .bin .add (.t 50) (.c (.int .i64 1)), none⟩,
      ⟨some 5, .cp (.t 51), none⟩]) (
  .goto 0)))))
def a10 : AC := .seq (.reg [⟨some 2, .cp (.c (.sl .own 2 [])), none⟩]) (
  .gsc (.seq (.reg [⟨some 8, .tk 0, none⟩,
      ⟨some 9, .call 17 [.t 8], none⟩,
      ⟨some 3, .tk 9, none⟩]) (
  .seq (.reg [⟨some 4, .nilB 0 2, none⟩]) (
  .seq (.reg [⟨some 5, .cp (.c (.int .i64 0)), none⟩]) (
  .lab [true, true, true, false, false, false, true, true, true, true, true, true, true, true, true, true, true, true, true, true, true, true, true, true, true, true, true, true, true, true, true, true, true, true, true, true, true, true, true, true, true, true, true, true, true, true, true, true, true, true, true, true] [] a10_j0)))) 0 [true, true, true, false, false, false, true, true, true, true, true, true, true, true, true, true, true, true, true, true, true, true, true, true, true, true, true, true, true, true, true, true, true, true, true, true, true, true, true, true, true, true, true, true, true, true, true, true, true, true, true, true] [] a10_j0 0 [true, true, true, false, false, false, true, true, true, true, true, true, true, true, true, true, true, true, true, true, true, true, true, true, true, true, true, true, true, true, true, true, true, true, true, true, true, true, true, true, true, true, true, true, true, true, true, true, true, true, true, true] [] a10_j0)
def af10 : AFn := ⟨52, 1, [.t 2], a10⟩
theorem ak10 : chkF Try.prog 10 af10 = true := by kernel_rfl

-- f11 fingerpost/fingerpostref15.Runs  boxes 1 notes []
def a11_l1 : AC := .seq (.reg [⟨some 20, .bin .lss (.t 19) (.t 18), none⟩]) (
  .seq (.cond (.t 20) (
    .skip) (
    .exit 2)) (
  .seq (.block 3 (
    .seq (.reg [⟨some 21, .iaE 1 (.t 17) (.t 19), none⟩,
        ⟨some 22, .ld none (.t 21), none⟩,
        ⟨some 7, .cp (.t 22), none⟩]) (
    .reg [⟨some 23, .cp (.t 5), none⟩,
        ⟨some 24, .cp (.t 23), none⟩,
        ⟨some 25, .cp (.t 7), some (24, false)⟩,
        ⟨some 26, .cp (.t 4), some (24, false)⟩,
        ⟨some 27, .bin .eql (.t 25) (.t 26), some (24, false)⟩,
        ⟨some 28, .pick (.t 24) (.c (.bool true)) (.t 27), none⟩,
        ⟨some 5, .cp (.t 28), none⟩]))) (
  .reg [⟨some 29, .bin .add (.t 19) (.c (.int .i64 1)), none⟩,
      ⟨some 19, .cp (.t 29), none⟩])))
def a11_l0 : AC := .seq (.seq (.reg [⟨some 8, .cp (.t 4), none⟩,
      ⟨some 9, .bin .leq (.t 8) (.c (.int .i64 65535)), none⟩,
      ⟨some 10, .cp (.t 9), none⟩,
      ⟨some 11, .cp (.t 3), some (10, true)⟩,
      ⟨some 12, .len (.t 11), some (10, true)⟩,
      ⟨some 13, .bin .lss (.t 12) (.c (.int .i64 64)), some (10, true)⟩,
      ⟨some 14, .pick (.t 10) (.t 13) (.c (.bool false)), none⟩]) (
  .cond (.t 14) (
    .skip) (
    .exit 0))) (
  .seq (.block 1 (
    .seq (.reg [⟨some 5, .cp (.c (.bool false)), none⟩]) (
    .seq (.seq (.reg [⟨some 17, .cp (.t 0), none⟩,
        ⟨some 18, .len (.t 17), none⟩,
        ⟨some 19, .cp (.c (.int .i64 0)), none⟩]) (
    .block 2 (
      .loop [false, true, true, false, false, false, true, true, true, true, true, true, true, true, true, true, true, false, false, false, true, true, true, true, true, true, true, true, true, true, true, true, true, true, true, true, true, true, true, true, true, true, true, true, true, true, true, true, true, true, true, true, true, true, true, true, true, true, true, true, true, true, true, true, true, true, true, true, true, true] [] a11_l1))) (
    .seq (.block 4 (
      .seq (.reg [⟨some 37, .cp (.t 5), none⟩,
          ⟨some 38, .un .not (.t 37), none⟩,
          ⟨some 36, .cp (.t 38), none⟩]) (
      .cond (.t 36) (
        .skip) (
        .seq (.reg [⟨some 40, .cp (.t 3), none⟩,
            ⟨some 41, .len (.t 40), none⟩,
            ⟨some 42, .bin .gtr (.t 41) (.c (.int .i64 0)), none⟩,
            ⟨some 43, .cp (.t 42), none⟩,
            ⟨some 44, .cp (.t 3), some (43, true)⟩,
            ⟨some 45, .cp (.t 3), some (43, true)⟩,
            ⟨some 46, .len (.t 45), some (43, true)⟩,
            ⟨some 47, .bin .sub (.t 46) (.c (.int .i64 1)), some (43, true)⟩,
            ⟨some 48, .ia 2 none (.t 44) (.t 47), some (43, true)⟩,
            ⟨some 49, .ia 1 (some 2) (.t 48) (.c (.int .i64 1)), some (43, true)⟩,
            ⟨some 50, .ldr none (.t 49), some (43, true)⟩,
            ⟨some 51, .cp (.t 4), some (43, true)⟩,
            ⟨some 52, .bin .sub (.t 51) (.c (.int .i64 1)), some (43, true)⟩,
            ⟨some 53, .bin .eql (.t 50) (.t 52), some (43, true)⟩,
            ⟨some 54, .pick (.t 43) (.t 53) (.c (.bool false)), none⟩,
            ⟨some 39, .cp (.t 54), none⟩]) (
        .cond (.t 39) (
          .reg [⟨some 55, .cp (.t 3), none⟩,
              ⟨some 56, .cp (.t 3), none⟩,
              ⟨some 57, .len (.t 56), none⟩,
              ⟨some 58, .bin .sub (.t 57) (.c (.int .i64 1)), none⟩,
              ⟨some 59, .cp (.t 4), none⟩,
              ⟨some 60, .ia 2 none (.t 55) (.t 58), none⟩,
              ⟨some 61, .ia 1 (some 2) (.t 60) (.c (.int .i64 1)), none⟩,
              ⟨none, .sto 1 (.t 61) (.t 59), none⟩]) (
          .grw [⟨some 30, .cp (.t 3), none⟩,
              ⟨some 31, .cp (.t 4), none⟩,
              ⟨some 32, .cp (.t 4), none⟩,
              ⟨some 33, .bld [.int .i64 0, .int .i64 0] [(0, 1, .t 31), (1, 1, .t 32)], none⟩,
              ⟨some 34, .bs 2 [.t 33], none⟩] 35 30 0 2 16 (.t 34) [⟨some 3, .cp (.t 35), none⟩])))))) (
    .seq (.reg [⟨some 62, .cp (.t 5), none⟩,
        ⟨some 63, .un .not (.t 62), none⟩,
        ⟨some 64, .cp (.t 63), none⟩,
        ⟨some 65, .cp (.t 0), some (64, true)⟩,
        ⟨some 66, .cp (.t 4), some (64, true)⟩,
        ⟨some 67, .call 18 [.t 65, .t 66], some (64, true)⟩,
        ⟨some 68, .pick (.t 64) (.t 67) (.c (.bool false)), none⟩]) (
    .cond (.t 68) (
      .exit 0) (
      .skip))))))) (
  .reg [⟨some 15, .cp (.t 4), none⟩,
      ⟨some 16, .bin .add (.t 15) (.c (.int .i64 1)), none⟩,
      ⟨some 4, .cp (.t 16), none⟩]))
def a11 : AC := .seq (.reg [⟨some 2, .cp (.c (.sl .own 2 [])), none⟩]) (
  .seq (.reg [⟨some 3, .nilB 0 2, none⟩]) (
  .seq (.seq (.reg [⟨some 4, .cp (.c (.int .i64 0)), none⟩]) (
  .block 0 (
    .loop [false, true, true, false, false, true, true, true, true, true, true, true, true, true, true, true, true, true, true, true, true, true, true, true, true, true, true, true, true, true, true, true, true, true, true, true, true, true, true, true, true, true, true, true, true, true, true, true, true, true, true, true, true, true, true, true, true, true, true, true, true, true, true, true, true, true, true, true, true, true] [] a11_l0))) (
  .seq (.reg [⟨some 69, .cp (.t 3), none⟩,
      ⟨some 2, .cp (.t 69), none⟩]) (
  .frz 0 2 (.ret)))))
def af11 : AFn := ⟨70, 1, [.t 2], a11⟩
theorem ak11 : chkF Try.prog 11 af11 = true := by kernel_rfl

-- f12 fingerpost/serial.Unruns  boxes 0 notes []
def a12_j1 : AC := .seq .skip (.seq (.seq (.reg [⟨some 42, .cp (.t 7), none⟩,
      ⟨some 43, .cp (.t 8), none⟩,
      ⟨some 44, .bin .gtr (.t 42) (.t 43), none⟩,
      ⟨some 45, .cp (.t 44), none⟩,
      ⟨some 46, .cp (.t 5), some (45, false)⟩,
      ⟨some 47, .len (.t 46), some (45, false)⟩,
      ⟨some 48, .cp (.t 1), some (45, false)⟩,
      ⟨some 49, .bin .geq (.t 47) (.t 48), some (45, false)⟩,
      ⟨some 50, .pick (.t 45) (.c (.bool true)) (.t 49), none⟩]) (
  .cond (.t 50) (
    .goto 0) (
    .skip))) (
  .seq (.reg [⟨some 51, .tk 5, none⟩,
      ⟨some 52, .cp (.t 7), none⟩,
      ⟨some 53, .bs 1 [.t 52], none⟩,
      ⟨some 54, .app 1 8 (.t 51) (.t 53), none⟩,
      ⟨some 5, .tk 54, none⟩]) (
  .seq (.reg [⟨some 55, .cp (.t 7), none⟩,
      ⟨some 56, .bin .add (.t 55) (.c (.int .i64 1)), none⟩,
      ⟨some 7, .cp (.t 56), none⟩]) (
  .goto 1))))
def a12_j0 : AC := .seq .skip (.seq (.seq (.reg [⟨some 11, .cp (.t 6), none⟩,
      ⟨some 12, .cp (.t 0), none⟩,
      ⟨some 13, .len (.t 12), none⟩,
      ⟨some 14, .bin .geq (.t 11) (.t 13), none⟩,
      ⟨some 15, .cp (.t 14), none⟩,
      ⟨some 16, .cp (.t 5), some (15, false)⟩,
      ⟨some 17, .len (.t 16), some (15, false)⟩,
      ⟨some 18, .cp (.t 1), some (15, false)⟩,
      ⟨some 19, .bin .geq (.t 17) (.t 18), some (15, false)⟩,
      ⟨some 20, .pick (.t 15) (.c (.bool true)) (.t 19), none⟩]) (
  .cond (.t 20) (
    .seq (.reg [⟨some 21, .tk 5, none⟩,
        ⟨some 4, .tk 21, none⟩]) (
    .ret)) (
    .skip))) (
  .seq (.drw [⟨some 22, .cp (.t 0), none⟩,
      ⟨some 23, .cp (.t 6), none⟩,
      ⟨some 24, .iaE 2 (.t 22) (.t 23), none⟩,
      ⟨some 25, .ia 1 (some 2) (.t 24) (.c (.int .i64 0)), none⟩,
      ⟨some 26, .ld none (.t 25), none⟩,
      ⟨some 27, .cp (.t 0), none⟩,
      ⟨some 28, .cp (.t 6), none⟩,
      ⟨some 29, .iaE 2 (.t 27) (.t 28), none⟩,
      ⟨some 30, .ia 1 (some 2) (.t 29) (.c (.int .i64 1)), none⟩,
      ⟨some 31, .ld none (.t 30), none⟩,
      ⟨some 7, .cp (.t 26), none⟩,
      ⟨some 8, .cp (.t 31), none⟩] []) (
  .seq (.reg [⟨some 32, .cp (.t 6), none⟩,
      ⟨some 33, .bin .add (.t 32) (.c (.int .i64 1)), none⟩,
      ⟨some 6, .cp (.t 33), none⟩]) (
  .seq (.seq (.reg [⟨some 34, .cp (.t 7), none⟩,
      ⟨some 35, .call 9 [.t 34], none⟩,
      ⟨some 36, .un .not (.t 35), none⟩,
      ⟨some 37, .cp (.t 36), none⟩,
      ⟨some 38, .cp (.t 8), some (37, false)⟩,
      ⟨some 39, .call 9 [.t 38], some (37, false)⟩,
      ⟨some 40, .un .not (.t 39), some (37, false)⟩,
      ⟨some 41, .pick (.t 37) (.c (.bool true)) (.t 40), none⟩]) (
  .cond (.t 41) (
    .goto 0) (
    .skip))) (
  .lab [false, false, true, true, true, false, false, false, false, true, true, true, true, true, true, true, true, true, true, true, true, true, true, true, true, true, true, true, true, true, true, true, true, true, true, true, true, true, true, true, true, true, true, true, true, true, true, true, true, true, true, true, true, true, true, true, true] [] a12_j1)))))
def a12 : AC := .seq (.reg [⟨some 4, .cp (.c (.sl .own 1 [])), none⟩]) (
  .gsc (.seq (.reg [⟨some 9, .cp (.t 1), none⟩,
      ⟨some 10, .mm false [.t 9, .c (.int .i64 1000)], none⟩,
      ⟨some 1, .cp (.t 10), none⟩]) (
  .seq (.reg [⟨some 5, .cp (.c (.sl .own 1 [])), none⟩]) (
  .seq (.reg [⟨some 6, .cp (.c (.int .i64 0)), none⟩]) (
  .lab [false, false, true, true, true, false, false, true, true, true, true, true, true, true, true, true, true, true, true, true, true, true, true, true, true, true, true, true, true, true, true, true, true, true, true, true, true, true, true, true, true, true, true, true, true, true, true, true, true, true, true, true, true, true, true, true, true] [] a12_j0)))) 0 [false, false, true, true, true, false, false, true, true, true, true, true, true, true, true, true, true, true, true, true, true, true, true, true, true, true, true, true, true, true, true, true, true, true, true, true, true, true, true, true, true, true, true, true, true, true, true, true, true, true, true, true, true, true, true, true, true] [] a12_j0 1 [false, false, true, true, true, false, false, false, false, true, true, true, true, true, true, true, true, true, true, true, true, true, true, true, true, true, true, true, true, true, true, true, true, true, true, true, true, true, true, true, true, true, true, true, true, true, true, true, true, true, true, true, true, true, true, true, true] [] a12_j1)
def af12 : AFn := ⟨57, 0, [.t 4], a12⟩
theorem ak12 : chkF Try.prog 12 af12 = true := by kernel_rfl

-- f13 fingerpost/fingerpostref15.Unruns  boxes 1 notes []
def a13_l1 : AC := .seq (.seq (.reg [⟨some 27, .cp (.t 8), none⟩,
      ⟨some 28, .ia 1 (some 2) (.t 7) (.c (.int .i64 1)), none⟩,
      ⟨some 29, .ld none (.t 28), none⟩,
      ⟨some 30, .bin .leq (.t 27) (.t 29), none⟩,
      ⟨some 31, .cp (.t 30), none⟩,
      ⟨some 32, .cp (.t 5), some (31, true)⟩,
      ⟨some 33, .len (.t 32), some (31, true)⟩,
      ⟨some 34, .cp (.t 1), some (31, true)⟩,
      ⟨some 35, .mm true [.t 34, .c (.int .i64 0)], some (31, true)⟩,
      ⟨some 36, .mm false [.t 35, .c (.int .i64 1000)], some (31, true)⟩,
      ⟨some 37, .bin .lss (.t 33) (.t 36), some (31, true)⟩,
      ⟨some 38, .pick (.t 31) (.t 37) (.c (.bool false)), none⟩]) (
  .cond (.t 38) (
    .skip) (
    .exit 2))) (
  .seq (.block 3 (
    .reg [⟨some 41, .tk 5, none⟩,
        ⟨some 42, .cp (.t 8), none⟩,
        ⟨some 43, .bs 1 [.t 42], none⟩,
        ⟨some 44, .app 1 8 (.t 41) (.t 43), none⟩,
        ⟨some 5, .tk 44, none⟩])) (
  .reg [⟨some 39, .cp (.t 8), none⟩,
      ⟨some 40, .bin .add (.t 39) (.c (.int .i64 1)), none⟩,
      ⟨some 8, .cp (.t 40), none⟩]))
def a13_l0 : AC := .seq (.reg [⟨some 12, .bin .lss (.t 11) (.t 10), none⟩]) (
  .seq (.cond (.t 12) (
    .skip) (
    .exit 0)) (
  .seq (.block 1 (
    .seq (.reg [⟨some 13, .iaE 2 (.t 9) (.t 11), none⟩,
        ⟨some 14, .ld (some 2) (.t 13), none⟩,
        ⟨some 7, .alloc 0 2 [.int .i64 0, .int .i64 0], none⟩,
        ⟨none, .st 2 (.t 7) (.t 14), none⟩]) (
    .seq (.seq (.reg [⟨some 15, .ia 1 (some 2) (.t 7) (.c (.int .i64 0)), none⟩,
        ⟨some 16, .ld none (.t 15), none⟩,
        ⟨some 17, .call 19 [.t 16], none⟩,
        ⟨some 18, .un .not (.t 17), none⟩,
        ⟨some 19, .cp (.t 18), none⟩,
        ⟨some 20, .ia 1 (some 2) (.t 7) (.c (.int .i64 1)), some (19, false)⟩,
        ⟨some 21, .ld none (.t 20), some (19, false)⟩,
        ⟨some 22, .call 19 [.t 21], some (19, false)⟩,
        ⟨some 23, .un .not (.t 22), some (19, false)⟩,
        ⟨some 24, .pick (.t 19) (.c (.bool true)) (.t 23), none⟩]) (
    .cond (.t 24) (
      .exit 1) (
      .skip))) (
    .seq (.reg [⟨some 25, .ia 1 (some 2) (.t 7) (.c (.int .i64 0)), none⟩,
        ⟨some 26, .ld none (.t 25), none⟩,
        ⟨some 8, .cp (.t 26), none⟩]) (
    .block 2 (
      .loop [true, false, true, true, true, false, true, false, false, false, false, false, true, true, true, true, true, true, true, true, true, true, true, true, true, true, true, true, true, true, true, true, true, true, true, true, true, true, true, true, true, true, true, true, true, true, true] [] a13_l1)))))) (
  .reg [⟨some 45, .bin .add (.t 11) (.c (.int .i64 1)), none⟩,
      ⟨some 11, .cp (.t 45), none⟩])))
def a13 : AC := .seq (.reg [⟨some 4, .cp (.c (.sl .own 1 [])), none⟩]) (
  .seq (.reg [⟨some 5, .cp (.c (.sl .own 1 [])), none⟩]) (
  .seq (.seq (.reg [⟨some 9, .tk 0, none⟩,
      ⟨some 10, .len (.t 9), none⟩,
      ⟨some 11, .cp (.c (.int .i64 0)), none⟩]) (
  .block 0 (
    .loop [true, false, true, true, true, false, true, true, true, false, false, false, true, true, true, true, true, true, true, true, true, true, true, true, true, true, true, true, true, true, true, true, true, true, true, true, true, true, true, true, true, true, true, true, true, true, true] [0] a13_l0))) (
  .seq (.reg [⟨some 46, .tk 5, none⟩,
      ⟨some 4, .tk 46, none⟩]) (
  .ret))))
def af13 : AFn := ⟨47, 1, [.t 4], a13⟩
theorem ak13 : chkF Try.prog 13 af13 = true := by kernel_rfl

-- f14 fingerpost/serial.Missing  boxes 1 notes []
def a14_l0 : AC := .seq (.reg [⟨some 18, .bin .lss (.t 17) (.t 16), none⟩]) (
  .seq (.cond (.t 18) (
    .skip) (
    .exit 0)) (
  .seq (.block 1 (
    .seq (.reg [⟨some 19, .iaE 1 (.t 15) (.t 17), none⟩,
        ⟨some 20, .ld none (.t 19), none⟩,
        ⟨some 8, .cp (.t 20), none⟩]) (
    .seq (.seq (.reg [⟨some 21, .cp (.t 8), none⟩,
        ⟨some 22, .call 9 [.t 21], none⟩,
        ⟨some 23, .un .not (.t 22), none⟩]) (
    .cond (.t 23) (
      .exit 1) (
      .skip))) (
    .seq (.reg [⟨some 24, .cp (.t 5), none⟩,
        ⟨some 25, .cp (.t 8), none⟩,
        ⟨some 26, .mm true [.t 24, .t 25], none⟩,
        ⟨some 5, .cp (.t 26), none⟩]) (
    .seq (.reg [⟨some 27, .cp (.t 8), none⟩,
        ⟨some 28, .cp (.t 0), none⟩,
        ⟨some 29, .bin .sub (.t 27) (.t 28), none⟩,
        ⟨some 9, .cp (.t 29), none⟩]) (
    .seq (.reg [⟨some 30, .cp (.t 9), none⟩,
        ⟨some 31, .bin .geq (.t 30) (.c (.int .i64 0)), none⟩,
        ⟨some 32, .cp (.t 31), none⟩,
        ⟨some 33, .cp (.t 9), some (32, true)⟩,
        ⟨some 34, .bin .leq (.t 33) (.c (.int .i64 7)), some (32, true)⟩,
        ⟨some 35, .pick (.t 32) (.t 34) (.c (.bool false)), none⟩]) (
    .cond (.t 35) (
      .reg [⟨some 36, .cp (.t 9), none⟩,
          ⟨some 37, .iaR 1 8 (.t 6) (.t 36), none⟩,
          ⟨none, .sto 1 (.t 37) (.c (.bool true)), none⟩]) (
      .skip)))))))) (
  .reg [⟨some 38, .bin .add (.t 17) (.c (.int .i64 1)), none⟩,
      ⟨some 17, .cp (.t 38), none⟩])))
def a14_j0 : AC := .seq .skip (.seq (.seq (.reg [⟨some 39, .cp (.t 11), none⟩,
      ⟨some 40, .bin .gtr (.t 39) (.c (.int .i64 7)), none⟩,
      ⟨some 41, .cp (.t 40), none⟩,
      ⟨some 42, .cp (.t 0), some (41, false)⟩,
      ⟨some 43, .cp (.t 11), some (41, false)⟩,
      ⟨some 44, .bin .add (.t 42) (.t 43), some (41, false)⟩,
      ⟨some 45, .cp (.t 5), some (41, false)⟩,
      ⟨some 46, .bin .geq (.t 44) (.t 45), some (41, false)⟩,
      ⟨some 47, .pick (.t 41) (.c (.bool true)) (.t 46), none⟩]) (
  .cond (.t 47) (
    .seq (.reg [⟨some 48, .tk 10, none⟩,
        ⟨some 4, .tk 48, none⟩]) (
    .ret)) (
    .skip))) (
  .seq (.seq (.reg [⟨some 49, .cp (.t 11), none⟩,
      ⟨some 50, .iaR 1 8 (.t 6) (.t 49), none⟩,
      ⟨some 51, .ldr none (.t 50), none⟩,
      ⟨some 52, .un .not (.t 51), none⟩]) (
  .cond (.t 52) (
    .reg [⟨some 53, .tk 10, none⟩,
        ⟨some 54, .cp (.t 0), none⟩,
        ⟨some 55, .cp (.t 11), none⟩,
        ⟨some 56, .bin .add (.t 54) (.t 55), none⟩,
        ⟨some 57, .bs 1 [.t 56], none⟩,
        ⟨some 58, .app 1 8 (.t 53) (.t 57), none⟩,
        ⟨some 10, .tk 58, none⟩]) (
    .skip))) (
  .seq (.reg [⟨some 59, .cp (.t 11), none⟩,
      ⟨some 60, .bin .add (.t 59) (.c (.int .i64 1)), none⟩,
      ⟨some 11, .cp (.t 60), none⟩]) (
  .goto 0))))
def a14 : AC := .seq (.reg [⟨some 4, .cp (.c (.sl .own 1 [])), none⟩]) (
  .gsc (.seq (.seq (.reg [⟨some 12, .cp (.t 0), none⟩,
      ⟨some 13, .call 9 [.t 12], none⟩,
      ⟨some 14, .un .not (.t 13), none⟩]) (
  .cond (.t 14) (
    .seq (.reg [⟨some 4, .cp (.c (.sl .own 1 [])), none⟩]) (
    .ret)) (
    .skip))) (
  .seq (.reg [⟨some 5, .cp (.c (.int .i64 (-1))), none⟩]) (
  .seq (.reg [⟨some 6, .allocR 0 8 1 [.bool false], none⟩]) (
  .seq (.seq (.reg [⟨some 15, .tk 1, none⟩,
      ⟨some 16, .len (.t 15), none⟩,
      ⟨some 17, .cp (.c (.int .i64 0)), none⟩]) (
  .block 0 (
    .loop [false, true, true, true, true, false, false, true, true, true, true, true, true, true, true, false, false, false, true, true, true, true, true, true, true, true, true, true, true, true, true, true, true, true, true, true, true, true, true, true, true, true, true, true, true, true, true, true, true, true, true, true, true, true, true, true, true, true, true, true, true] [] a14_l0))) (
  .seq (.reg [⟨some 10, .cp (.c (.sl .own 1 [])), none⟩]) (
  .seq (.reg [⟨some 11, .cp (.c (.int .i64 0)), none⟩]) (
  .lab [false, true, true, true, true, false, false, true, true, true, false, false, true, true, true, true, true, true, true, true, true, true, true, true, true, true, true, true, true, true, true, true, true, true, true, true, true, true, true, true, true, true, true, true, true, true, true, true, true, true, true, true, true, true, true, true, true, true, true, true, true] [] a14_j0))))))) 0 [false, true, true, true, true, false, false, true, true, true, false, false, true, true, true, true, true, true, true, true, true, true, true, true, true, true, true, true, true, true, true, true, true, true, true, true, true, true, true, true, true, true, true, true, true, true, true, true, true, true, true, true, true, true, true, true, true, true, true, true, true] [] a14_j0 0 [false, true, true, true, true, false, false, true, true, true, false, false, true, true, true, true, true, true, true, true, true, true, true, true, true, true, true, true, true, true, true, true, true, true, true, true, true, true, true, true, true, true, true, true, true, true, true, true, true, true, true, true, true, true, true, true, true, true, true, true, true] [] a14_j0)
def af14 : AFn := ⟨61, 1, [.t 4], a14⟩
theorem ak14 : chkF Try.prog 14 af14 = true := by kernel_rfl

-- f15 fingerpost/fingerpostref15.Missing  boxes 0 notes []
def a15_l1 : AC := .seq (.reg [⟨some 25, .bin .lss (.t 24) (.t 23), none⟩]) (
  .seq (.cond (.t 25) (
    .skip) (
    .exit 2)) (
  .seq (.block 3 (
    .seq (.reg [⟨some 26, .iaE 1 (.t 22) (.t 24), none⟩,
        ⟨some 27, .ld none (.t 26), none⟩,
        ⟨some 9, .cp (.t 27), none⟩]) (
    .reg [⟨some 28, .cp (.t 7), none⟩,
        ⟨some 29, .cp (.t 28), none⟩,
        ⟨some 30, .cp (.t 9), some (29, false)⟩,
        ⟨some 31, .cp (.t 0), some (29, false)⟩,
        ⟨some 32, .cp (.t 6), some (29, false)⟩,
        ⟨some 33, .bin .add (.t 31) (.t 32), some (29, false)⟩,
        ⟨some 34, .bin .eql (.t 30) (.t 33), some (29, false)⟩,
        ⟨some 35, .pick (.t 29) (.c (.bool true)) (.t 34), none⟩,
        ⟨some 7, .cp (.t 35), none⟩]))) (
  .reg [⟨some 36, .bin .add (.t 24) (.c (.int .i64 1)), none⟩,
      ⟨some 24, .cp (.t 36), none⟩])))
def a15_l0 : AC := .seq (.reg [⟨some 11, .bin .lss (.t 10) (.c (.int .i64 8)), none⟩]) (
  .seq (.cond (.t 11) (
    .skip) (
    .exit 0)) (
  .seq (.block 1 (
    .seq (.reg [⟨some 12, .cp (.t 10), none⟩,
        ⟨some 6, .cp (.t 12), none⟩]) (
    .seq (.seq (.reg [⟨some 13, .cp (.t 0), none⟩,
        ⟨some 14, .call 19 [.t 13], none⟩,
        ⟨some 15, .un .not (.t 14), none⟩,
        ⟨some 16, .cp (.t 15), none⟩,
        ⟨some 17, .cp (.t 0), some (16, false)⟩,
        ⟨some 18, .cp (.t 6), some (16, false)⟩,
        ⟨some 19, .bin .sub (.c (.int .i64 65535)) (.t 18), some (16, false)⟩,
        ⟨some 20, .bin .gtr (.t 17) (.t 19), some (16, false)⟩,
        ⟨some 21, .pick (.t 16) (.c (.bool true)) (.t 20), none⟩]) (
    .cond (.t 21) (
      .exit 0) (
      .skip))) (
    .seq (.reg [⟨some 7, .cp (.c (.bool false)), none⟩]) (
    .seq (.seq (.reg [⟨some 22, .cp (.t 1), none⟩,
        ⟨some 23, .len (.t 22), none⟩,
        ⟨some 24, .cp (.c (.int .i64 0)), none⟩]) (
    .block 2 (
      .loop [false, false, true, true, true, false, false, false, true, true, false, true, true, true, true, true, true, true, true, true, true, true, false, false, false, true, true, true, true, true, true, true, true, true, true, true, true, true, true, true, true, true, true, true, true, true, true, true, true, true, true, true, true, true, true] [] a15_l1))) (
    .seq (.reg [⟨some 37, .cp (.t 7), none⟩,
        ⟨some 38, .un .not (.t 37), none⟩,
        ⟨some 39, .cp (.t 38), none⟩,
        ⟨some 40, .cp (.t 1), some (39, true)⟩,
        ⟨some 41, .cp (.t 0), some (39, true)⟩,
        ⟨some 42, .cp (.t 6), some (39, true)⟩,
        ⟨some 43, .bin .add (.t 41) (.t 42), some (39, true)⟩,
        ⟨some 44, .call 18 [.t 40, .t 43], some (39, true)⟩,
        ⟨some 45, .un .not (.t 44), some (39, true)⟩,
        ⟨some 46, .pick (.t 39) (.t 45) (.c (.bool false)), none⟩]) (
    .cond (.t 46) (
      .reg [⟨some 47, .tk 5, none⟩,
          ⟨some 48, .cp (.t 0), none⟩,
          ⟨some 49, .cp (.t 6), none⟩,
          ⟨some 50, .bin .add (.t 48) (.t 49), none⟩,
          ⟨some 51, .bs 1 [.t 50], none⟩,
          ⟨some 52, .app 1 8 (.t 47) (.t 51), none⟩,
          ⟨some 5, .tk 52, none⟩]) (
      .skip)))))))) (
  .reg [⟨some 53, .bin .add (.t 10) (.c (.int .i64 1)), none⟩,
      ⟨some 10, .cp (.t 53), none⟩])))
def a15 : AC := .seq (.reg [⟨some 4, .cp (.c (.sl .own 1 [])), none⟩]) (
  .seq (.reg [⟨some 5, .cp (.c (.sl .own 1 [])), none⟩]) (
  .seq (.seq (.reg [⟨some 10, .cp (.c (.int .i64 0)), none⟩]) (
  .block 0 (
    .loop [false, false, true, true, true, false, true, true, true, true, false, true, true, true, true, true, true, true, true, true, true, true, true, true, true, true, true, true, true, true, true, true, true, true, true, true, true, true, true, true, true, true, true, true, true, true, true, true, true, true, true, true, true, true, true] [] a15_l0))) (
  .seq (.reg [⟨some 54, .tk 5, none⟩,
      ⟨some 4, .tk 54, none⟩]) (
  .ret))))
def af15 : AFn := ⟨55, 0, [.t 4], a15⟩
theorem ak15 : chkF Try.prog 15 af15 = true := by kernel_rfl

-- f16 fingerpost/fingerpostlaw15.ints  boxes 0 notes []
def a16_l0 : AC := .seq (.reg [⟨some 14, .bin .lss (.t 13) (.t 12), none⟩]) (
  .seq (.cond (.t 14) (
    .skip) (
    .exit 0)) (
  .seq (.block 1 (
    .seq (.reg [⟨some 15, .cp (.t 13), none⟩,
        ⟨some 5, .cp (.t 15), none⟩]) (
    .seq (.drw [⟨some 16, .cp (.t 0), none⟩,
        ⟨some 17, .cp (.t 5), none⟩,
        ⟨some 18, .iaE 1 (.t 16) (.t 17), none⟩,
        ⟨some 19, .ld none (.t 18), none⟩,
        ⟨some 20, .cp (.t 1), none⟩,
        ⟨some 21, .cp (.t 5), none⟩,
        ⟨some 22, .iaE 1 (.t 20) (.t 21), none⟩,
        ⟨some 23, .ld none (.t 22), none⟩,
        ⟨some 24, .bin .neq (.t 19) (.t 23), none⟩] []) (
    .cond (.t 24) (
      .seq (.reg [⟨some 4, .cp (.c (.bool false)), none⟩]) (
      .ret)) (
      .skip))))) (
  .reg [⟨some 25, .bin .add (.t 13) (.c (.int .i64 1)), none⟩,
      ⟨some 13, .cp (.t 25), none⟩])))
def a16 : AC := .seq (.reg [⟨some 4, .cp (.c (.bool false)), none⟩]) (
  .seq (.seq (.reg [⟨some 6, .cp (.t 0), none⟩,
      ⟨some 7, .len (.t 6), none⟩,
      ⟨some 8, .cp (.t 1), none⟩,
      ⟨some 9, .len (.t 8), none⟩,
      ⟨some 10, .bin .neq (.t 7) (.t 9), none⟩]) (
  .cond (.t 10) (
    .seq (.reg [⟨some 4, .cp (.c (.bool false)), none⟩]) (
    .ret)) (
    .skip))) (
  .seq (.seq (.reg [⟨some 11, .cp (.t 0), none⟩,
      ⟨some 12, .len (.t 11), none⟩,
      ⟨some 13, .cp (.c (.int .i64 0)), none⟩]) (
  .block 0 (
    .loop [false, false, true, true, true, true, true, true, true, true, true, true, false, false, true, true, true, true, true, true, true, true, true, true, true, true] [] a16_l0))) (
  .seq (.reg [⟨some 4, .cp (.c (.bool true)), none⟩]) (
  .ret))))
def af16 : AFn := ⟨26, 0, [.t 4], a16⟩
theorem ak16 : chkF Try.prog 16 af16 = true := by kernel_rfl

-- f17 fingerpost/serial.rights  boxes 0 notes []
def a17_l0 : AC := .seq (.reg [⟨some 9, .bin .lss (.t 8) (.t 7), none⟩]) (
  .seq (.cond (.t 9) (
    .skip) (
    .exit 0)) (
  .seq (.block 1 (
    .seq (.reg [⟨some 10, .iaE 1 (.t 6) (.t 8), none⟩,
        ⟨some 11, .ld none (.t 10), none⟩,
        ⟨some 5, .cp (.t 11), none⟩]) (
    .seq (.reg [⟨some 12, .cp (.t 5), none⟩,
        ⟨some 13, .call 9 [.t 12], none⟩]) (
    .cond (.t 13) (
      .reg [⟨some 14, .tk 3, none⟩,
          ⟨some 15, .cp (.t 5), none⟩,
          ⟨some 16, .bs 1 [.t 15], none⟩,
          ⟨some 17, .app 1 8 (.t 14) (.t 16), none⟩,
          ⟨some 3, .tk 17, none⟩]) (
      .skip))))) (
  .reg [⟨some 18, .bin .add (.t 8) (.c (.int .i64 1)), none⟩,
      ⟨some 8, .cp (.t 18), none⟩])))
def a17 : AC := .seq (.reg [⟨some 2, .cp (.c (.sl .own 1 [])), none⟩]) (
  .seq (.reg [⟨some 3, .cp (.c (.sl .own 1 [])), none⟩]) (
  .seq (.seq (.reg [⟨some 6, .tk 0, none⟩,
      ⟨some 7, .len (.t 6), none⟩,
      ⟨some 8, .cp (.c (.int .i64 0)), none⟩]) (
  .block 0 (
    .loop [true, true, true, false, true, true, false, false, false, true, true, true, true, true, true, true, true, true, true, true, true, true, true] [] a17_l0))) (
  .seq (.reg [⟨some 19, .cp (.t 3), none⟩,
      ⟨some 20, .call 20 [.t 19], none⟩]) (
  .seq (.reg [⟨some 21, .tk 3, none⟩,
      ⟨some 22, .call 21 [.t 21], none⟩,
      ⟨some 2, .tk 22, none⟩]) (
  .ret)))))
def af17 : AFn := ⟨23, 0, [.t 2], a17⟩
theorem ak17 : chkF Try.prog 17 af17 = true := by kernel_rfl

-- f18 fingerpost/fingerpostref15.past  boxes 0 notes []
def a18_l0 : AC := .seq (.reg [⟨some 10, .bin .lss (.t 9) (.t 8), none⟩]) (
  .seq (.cond (.t 10) (
    .skip) (
    .exit 0)) (
  .seq (.block 1 (
    .seq (.reg [⟨some 11, .iaE 1 (.t 7) (.t 9), none⟩,
        ⟨some 12, .ld none (.t 11), none⟩,
        ⟨some 6, .cp (.t 12), none⟩]) (
    .seq (.reg [⟨some 13, .cp (.t 6), none⟩,
        ⟨some 14, .cp (.t 1), none⟩,
        ⟨some 15, .bin .gtr (.t 13) (.t 14), none⟩,
        ⟨some 16, .cp (.t 15), none⟩,
        ⟨some 17, .cp (.t 6), some (16, true)⟩,
        ⟨some 18, .call 19 [.t 17], some (16, true)⟩,
        ⟨some 19, .pick (.t 16) (.t 18) (.c (.bool false)), none⟩]) (
    .cond (.t 19) (
      .seq (.reg [⟨some 4, .cp (.c (.bool false)), none⟩]) (
      .ret)) (
      .skip))))) (
  .reg [⟨some 20, .bin .add (.t 9) (.c (.int .i64 1)), none⟩,
      ⟨some 9, .cp (.t 20), none⟩])))
def a18 : AC := .seq (.reg [⟨some 4, .cp (.c (.bool false)), none⟩]) (
  .seq (.seq (.reg [⟨some 7, .tk 0, none⟩,
      ⟨some 8, .len (.t 7), none⟩,
      ⟨some 9, .cp (.c (.int .i64 0)), none⟩]) (
  .block 0 (
    .loop [true, false, true, true, true, true, true, false, false, false, true, true, true, true, true, true, true, true, true, true, true] [] a18_l0))) (
  .seq (.reg [⟨some 4, .cp (.c (.bool true)), none⟩]) (
  .ret)))
def af18 : AFn := ⟨21, 0, [.t 4], a18⟩
theorem ak18 : chkF Try.prog 18 af18 = true := by kernel_rfl

-- f19 fingerpost/fingerpostref15.Right  boxes 0 notes []
def a19 : AC := .seq (.reg [⟨some 2, .cp (.c (.bool false)), none⟩]) (
  .seq (.reg [⟨some 3, .cp (.t 0), none⟩,
      ⟨some 4, .bin .geq (.t 3) (.c (.int .i64 0)), none⟩,
      ⟨some 5, .cp (.t 4), none⟩,
      ⟨some 6, .cp (.t 0), some (5, true)⟩,
      ⟨some 7, .bin .leq (.t 6) (.c (.int .i64 65535)), some (5, true)⟩,
      ⟨some 8, .pick (.t 5) (.t 7) (.c (.bool false)), none⟩,
      ⟨some 2, .cp (.t 8), none⟩]) (
  .ret))
def af19 : AFn := ⟨9, 0, [.t 2], a19⟩
theorem ak19 : chkF Try.prog 19 af19 = true := by kernel_rfl

-- f4 fingerpost/fingerpostlaw15.SerialRuns  boxes 1 notes []
def a4_l0 : AC := .seq (.reg [⟨some 40, .bin .lss (.t 39) (.t 38), none⟩]) (
  .seq (.cond (.t 40) (
    .skip) (
    .exit 0)) (
  .seq (.block 1 (
    .seq (.reg [⟨some 41, .iaE 1 (.t 37) (.t 39), none⟩,
        ⟨some 42, .ld none (.t 41), none⟩,
        ⟨some 9, .cp (.t 42), none⟩]) (
    .reg [⟨some 43, .tk 7, none⟩,
        ⟨some 44, .cp (.t 9), none⟩,
        ⟨some 45, .bin .and (.t 44) (.c (.int .i64 255)), none⟩,
        ⟨some 46, .bs 1 [.t 45], none⟩,
        ⟨some 47, .app 1 8 (.t 43) (.t 46), none⟩,
        ⟨some 7, .tk 47, none⟩]))) (
  .reg [⟨some 48, .bin .add (.t 39) (.c (.int .i64 1)), none⟩,
      ⟨some 39, .cp (.t 48), none⟩])))
def a4_l1 : AC := .seq (.reg [⟨some 89, .bin .lss (.t 88) (.t 87), none⟩]) (
  .seq (.cond (.t 89) (
    .skip) (
    .exit 2)) (
  .seq (.block 3 (
    .seq (.reg [⟨some 90, .cp (.t 88), none⟩,
        ⟨some 16, .cp (.t 90), none⟩]) (
    .seq (.drw [⟨some 91, .cp (.t 10), none⟩,
        ⟨some 92, .cp (.t 16), none⟩,
        ⟨some 93, .iaE 2 (.t 91) (.t 92), none⟩,
        ⟨some 94, .ld (some 2) (.t 93), none⟩,
        ⟨some 95, .cp (.t 11), none⟩,
        ⟨some 96, .cp (.t 16), none⟩,
        ⟨some 97, .iaE 2 (.t 95) (.t 96), none⟩,
        ⟨some 98, .ld (some 2) (.t 97), none⟩,
        ⟨some 99, .eqA true [.i, .i] (.t 94) (.t 98), none⟩] []) (
    .cond (.t 99) (
      .seq (.reg [⟨some 6, .cp (.c (.bool false)), none⟩]) (
      .ret)) (
      .skip))))) (
  .reg [⟨some 100, .bin .add (.t 88) (.c (.int .i64 1)), none⟩,
      ⟨some 88, .cp (.t 100), none⟩])))
def a4_l3 : AC := .seq (.reg [⟨some 113, .bin .lss (.t 112) (.t 111), none⟩]) (
  .seq (.cond (.t 113) (
    .skip) (
    .exit 6)) (
  .seq (.block 7 (
    .seq (.reg [⟨some 114, .iaE 1 (.t 110) (.t 112), none⟩,
        ⟨some 115, .ld none (.t 114), none⟩,
        ⟨some 22, .cp (.t 115), none⟩]) (
    .reg [⟨some 116, .cp (.t 20), none⟩,
        ⟨some 117, .cp (.t 116), none⟩,
        ⟨some 118, .cp (.t 22), some (117, false)⟩,
        ⟨some 119, .cp (.t 19), some (117, false)⟩,
        ⟨some 120, .bin .eql (.t 118) (.t 119), some (117, false)⟩,
        ⟨some 121, .pick (.t 117) (.c (.bool true)) (.t 120), none⟩,
        ⟨some 20, .cp (.t 121), none⟩]))) (
  .reg [⟨some 122, .bin .add (.t 112) (.c (.int .i64 1)), none⟩,
      ⟨some 112, .cp (.t 122), none⟩])))
def a4_l2 : AC := .seq (.reg [⟨some 106, .bin .lss (.t 105) (.t 104), none⟩]) (
  .seq (.cond (.t 106) (
    .skip) (
    .exit 4)) (
  .seq (.block 5 (
    .seq (.reg [⟨some 107, .cp (.t 105), none⟩,
        ⟨some 108, .iaE 1 (.t 103) (.t 105), none⟩,
        ⟨some 109, .ld none (.t 108), none⟩,
        ⟨some 18, .cp (.t 107), none⟩,
        ⟨some 19, .cp (.t 109), none⟩]) (
    .seq (.reg [⟨some 20, .cp (.c (.bool false)), none⟩]) (
    .seq (.seq (.reg [⟨some 110, .cp (.t 7), none⟩,
        ⟨some 111, .len (.t 110), none⟩,
        ⟨some 112, .cp (.c (.int .i64 0)), none⟩]) (
    .block 6 (
      .loop [true, true, true, true, true, true, true, false, true, true, true, true, true, true, true, true, true, false, false, false, false, true, true, true, true, true, true, true, true, true, true, true, true, true, true, true, true, true, true, true, true, true, true, true, true, true, true, true, true, true, true, true, true, true, true, true, true, true, true, true, true, true, true, true, true, true, true, true, true, true, true, true, true, true, true, true, true, true, true, true, true, true, true, true, true, true, true, true, true, true, true, true, true, true, true, true, true, true, true, true, true, true, true, false, false, false, true, true, true, true, false, false, false, true, true, true, true, true, true, true, true, true, true, true, true, true, true, true, true, true, true, true, true, true, true, true, true, true, true, true, true, true, true, true, true, true, true, true, true, true, true, true, true, true, true, true, true, true, true, true, true, true] [] a4_l3))) (
    .seq (.reg [⟨some 123, .cp (.t 20), none⟩,
        ⟨some 124, .un .not (.t 123), none⟩,
        ⟨some 125, .cp (.t 124), none⟩,
        ⟨some 126, .cp (.t 18), some (125, false)⟩,
        ⟨some 127, .bin .gtr (.t 126) (.c (.int .i64 0)), some (125, false)⟩,
        ⟨some 128, .cp (.t 127), some (125, false)⟩,
        ⟨some 129, .cp (.t 19), some (128, true)⟩,
        ⟨some 130, .cp (.t 17), some (128, true)⟩,
        ⟨some 131, .cp (.t 18), some (128, true)⟩,
        ⟨some 132, .bin .sub (.t 131) (.c (.int .i64 1)), some (128, true)⟩,
        ⟨some 133, .iaE 1 (.t 130) (.t 132), some (128, true)⟩,
        ⟨some 134, .ld none (.t 133), some (128, true)⟩,
        ⟨some 135, .bin .leq (.t 129) (.t 134), some (128, true)⟩,
        ⟨some 136, .pick (.t 128) (.t 135) (.c (.bool false)), some (125, false)⟩,
        ⟨some 137, .pick (.t 125) (.c (.bool true)) (.t 136), none⟩]) (
    .cond (.t 137) (
      .seq (.reg [⟨some 6, .cp (.c (.bool false)), none⟩]) (
      .ret)) (
      .skip))))))) (
  .reg [⟨some 138, .bin .add (.t 105) (.c (.int .i64 1)), none⟩,
      ⟨some 105, .cp (.t 138), none⟩])))
def a4_l5 : AC := .seq (.reg [⟨some 148, .bin .lss (.t 147) (.t 146), none⟩]) (
  .seq (.cond (.t 148) (
    .skip) (
    .exit 10)) (
  .seq (.block 11 (
    .seq (.reg [⟨some 149, .iaE 1 (.t 145) (.t 147), none⟩,
        ⟨some 150, .ld none (.t 149), none⟩,
        ⟨some 27, .cp (.t 150), none⟩]) (
    .reg [⟨some 151, .cp (.t 25), none⟩,
        ⟨some 152, .cp (.t 151), none⟩,
        ⟨some 153, .cp (.t 24), some (152, false)⟩,
        ⟨some 154, .cp (.t 27), some (152, false)⟩,
        ⟨some 155, .bin .eql (.t 153) (.t 154), some (152, false)⟩,
        ⟨some 156, .pick (.t 152) (.c (.bool true)) (.t 155), none⟩,
        ⟨some 25, .cp (.t 156), none⟩]))) (
  .reg [⟨some 157, .bin .add (.t 147) (.c (.int .i64 1)), none⟩,
      ⟨some 147, .cp (.t 157), none⟩])))
def a4_l4 : AC := .seq (.reg [⟨some 142, .bin .lss (.t 141) (.t 140), none⟩]) (
  .seq (.cond (.t 142) (
    .skip) (
    .exit 8)) (
  .seq (.block 9 (
    .seq (.reg [⟨some 143, .iaE 1 (.t 139) (.t 141), none⟩,
        ⟨some 144, .ld none (.t 143), none⟩,
        ⟨some 24, .cp (.t 144), none⟩]) (
    .seq (.reg [⟨some 25, .cp (.c (.bool false)), none⟩]) (
    .seq (.seq (.reg [⟨some 145, .cp (.t 17), none⟩,
        ⟨some 146, .len (.t 145), none⟩,
        ⟨some 147, .cp (.c (.int .i64 0)), none⟩]) (
    .block 10 (
      .loop [true, true, true, true, true, true, true, true, true, true, true, true, true, true, true, true, true, false, true, true, true, true, true, true, false, false, true, true, true, true, true, true, true, true, true, true, true, true, true, true, true, true, true, true, true, true, true, true, true, true, true, true, true, true, true, true, true, true, true, true, true, true, true, true, true, true, true, true, true, true, true, true, true, true, true, true, true, true, true, true, true, true, true, true, true, true, true, true, true, true, true, true, true, true, true, true, true, true, true, true, true, true, true, true, true, true, true, true, true, true, true, true, true, true, true, true, true, true, true, true, true, true, true, true, true, true, true, true, true, true, true, true, true, true, true, true, true, true, true, false, false, false, true, true, true, false, false, false, true, true, true, true, true, true, true, true, true, true, true, true, true, true] [] a4_l5))) (
    .seq (.reg [⟨some 158, .cp (.t 25), none⟩,
        ⟨some 159, .un .not (.t 158), none⟩]) (
    .cond (.t 159) (
      .seq (.reg [⟨some 6, .cp (.c (.bool false)), none⟩]) (
      .ret)) (
      .skip))))))) (
  .reg [⟨some 160, .bin .add (.t 141) (.c (.int .i64 1)), none⟩,
      ⟨some 141, .cp (.t 160), none⟩])))
def a4 : AC := .seq (.reg [⟨some 5, .box 0 2 (.t 2), none⟩,
      ⟨some 6, .cp (.c (.bool false)), none⟩]) (
  .seq (.seq (.reg [⟨some 28, .cp (.t 0), none⟩,
      ⟨some 29, .len (.t 28), none⟩,
      ⟨some 30, .bin .gtr (.t 29) (.c (.int .i64 40)), none⟩,
      ⟨some 31, .cp (.t 30), none⟩,
      ⟨some 32, .cp (.t 1), some (31, false)⟩,
      ⟨some 33, .len (.t 32), some (31, false)⟩,
      ⟨some 34, .bin .gtr (.t 33) (.c (.int .i64 40)), some (31, false)⟩,
      ⟨some 35, .pick (.t 31) (.c (.bool true)) (.t 34), none⟩]) (
  .cond (.t 35) (
    .seq (.reg [⟨some 36, .call 6 [], none⟩,
        ⟨some 6, .cp (.t 36), none⟩]) (
    .ret)) (
    .skip))) (
  .seq (.reg [⟨some 7, .cp (.c (.sl .own 1 [])), none⟩]) (
  .seq (.seq (.reg [⟨some 37, .cp (.t 0), none⟩,
      ⟨some 38, .len (.t 37), none⟩,
      ⟨some 39, .cp (.c (.int .i64 0)), none⟩]) (
  .block 0 (
    .loop [false, false, true, true, true, false, true, false, true, true, true, true, true, true, true, true, true, true, true, true, true, true, true, true, true, true, true, true, true, true, true, true, true, true, true, true, true, false, false, false, true, true, true, true, true, true, true, true, true, true, true, true, true, true, true, true, true, true, true, true, true, true, true, true, true, true, true, true, true, true, true, true, true, true, true, true, true, true, true, true, true, true, true, true, true, true, true, true, true, true, true, true, true, true, true, true, true, true, true, true, true, true, true, true, true, true, true, true, true, true, true, true, true, true, true, true, true, true, true, true, true, true, true, true, true, true, true, true, true, true, true, true, true, true, true, true, true, true, true, true, true, true, true, true, true, true, true, true, true, true, true, true, true, true, true, true, true, true, true, true, true, true] [] a4_l0))) (
  .seq (.reg [⟨some 49, .cp (.t 7), none⟩,
      ⟨some 50, .call 10 [.t 49], none⟩,
      ⟨some 51, .cp (.t 7), none⟩,
      ⟨some 52, .call 11 [.t 51], none⟩,
      ⟨some 10, .tk 50, none⟩,
      ⟨some 11, .tk 52, none⟩]) (
  .seq (.drw [⟨some 53, .cp (.t 1), none⟩,
      ⟨some 54, .ia 1 (some 2) (.t 5) (.c (.int .i64 0)), none⟩,
      ⟨some 55, .ld none (.t 54), none⟩,
      ⟨some 56, .call 12 [.t 53, .t 55], none⟩,
      ⟨some 57, .cp (.t 1), none⟩,
      ⟨some 58, .ia 1 (some 2) (.t 5) (.c (.int .i64 0)), none⟩,
      ⟨some 59, .ld none (.t 58), none⟩,
      ⟨some 60, .call 13 [.t 57, .t 59], none⟩,
      ⟨some 12, .tk 56, none⟩,
      ⟨some 13, .tk 60, none⟩] []) (
  .seq (.drw [⟨some 61, .ia 1 (some 2) (.t 5) (.c (.int .i64 1)), none⟩,
      ⟨some 62, .ld none (.t 61), none⟩,
      ⟨some 63, .cp (.t 0), none⟩,
      ⟨some 64, .call 14 [.t 62, .t 63], none⟩,
      ⟨some 65, .ia 1 (some 2) (.t 5) (.c (.int .i64 1)), none⟩,
      ⟨some 66, .ld none (.t 65), none⟩,
      ⟨some 67, .cp (.t 0), none⟩,
      ⟨some 68, .call 15 [.t 66, .t 67], none⟩,
      ⟨some 14, .tk 64, none⟩,
      ⟨some 15, .tk 68, none⟩] []) (
  .seq (.seq (.reg [⟨some 69, .cp (.t 10), none⟩,
      ⟨some 70, .len (.t 69), none⟩,
      ⟨some 71, .cp (.t 11), none⟩,
      ⟨some 72, .len (.t 71), none⟩,
      ⟨some 73, .bin .neq (.t 70) (.t 72), none⟩,
      ⟨some 74, .cp (.t 73), none⟩,
      ⟨some 75, .tk 12, some (74, false)⟩,
      ⟨some 76, .tk 13, some (74, false)⟩,
      ⟨some 77, .call 16 [.t 75, .t 76], some (74, false)⟩,
      ⟨some 78, .un .not (.t 77), some (74, false)⟩,
      ⟨some 79, .pick (.t 74) (.c (.bool true)) (.t 78), none⟩,
      ⟨some 80, .cp (.t 79), none⟩,
      ⟨some 81, .tk 14, some (80, false)⟩,
      ⟨some 82, .tk 15, some (80, false)⟩,
      ⟨some 83, .call 16 [.t 81, .t 82], some (80, false)⟩,
      ⟨some 84, .un .not (.t 83), some (80, false)⟩,
      ⟨some 85, .pick (.t 80) (.c (.bool true)) (.t 84), none⟩]) (
  .cond (.t 85) (
    .seq (.reg [⟨some 6, .cp (.c (.bool false)), none⟩]) (
    .ret)) (
    .skip))) (
  .seq (.seq (.reg [⟨some 86, .cp (.t 10), none⟩,
      ⟨some 87, .len (.t 86), none⟩,
      ⟨some 88, .cp (.c (.int .i64 0)), none⟩]) (
  .block 2 (
    .loop [true, true, true, true, true, true, true, false, true, true, false, false, true, true, true, true, true, true, true, true, true, true, true, true, true, true, true, true, true, true, true, true, true, true, true, true, true, true, true, true, true, true, true, true, true, true, true, true, true, true, true, true, true, true, true, true, true, true, true, true, true, true, true, true, true, true, true, true, true, true, true, true, true, true, true, true, true, true, true, true, true, true, true, true, true, true, true, false, false, true, true, true, true, true, true, true, true, true, true, true, true, true, true, true, true, true, true, true, true, true, true, true, true, true, true, true, true, true, true, true, true, true, true, true, true, true, true, true, true, true, true, true, true, true, true, true, true, true, true, true, true, true, true, true, true, true, true, true, true, true, true, true, true, true, true, true, true, true, true, true, true, true] [] a4_l1))) (
  .seq (.reg [⟨some 101, .tk 10, none⟩,
      ⟨some 102, .call 12 [.t 101, .c (.int .i64 1000)], none⟩,
      ⟨some 17, .tk 102, none⟩]) (
  .seq (.seq (.reg [⟨some 103, .cp (.t 17), none⟩,
      ⟨some 104, .len (.t 103), none⟩,
      ⟨some 105, .cp (.c (.int .i64 0)), none⟩]) (
  .block 4 (
    .loop [true, true, true, true, true, true, true, false, true, true, true, true, true, true, true, true, true, false, true, true, true, true, true, true, true, true, true, true, true, true, true, true, true, true, true, true, true, true, true, true, true, true, true, true, true, true, true, true, true, true, true, true, true, true, true, true, true, true, true, true, true, true, true, true, true, true, true, true, true, true, true, true, true, true, true, true, true, true, true, true, true, true, true, true, true, true, true, true, true, true, true, true, true, true, true, true, true, true, true, true, true, true, true, false, false, false, true, true, true, true, true, true, true, true, true, true, true, true, true, true, true, true, true, true, true, true, true, true, true, true, true, true, true, true, true, true, true, true, true, true, true, true, true, true, true, true, true, true, true, true, true, true, true, true, true, true, true, true, true, true, true, true] [] a4_l2))) (
  .seq (.seq (.reg [⟨some 139, .tk 7, none⟩,
      ⟨some 140, .len (.t 139), none⟩,
      ⟨some 141, .cp (.c (.int .i64 0)), none⟩]) (
  .block 8 (
    .loop [true, true, true, true, true, true, true, true, true, true, true, true, true, true, true, true, true, false, true, true, true, true, true, true, true, true, true, true, true, true, true, true, true, true, true, true, true, true, true, true, true, true, true, true, true, true, true, true, true, true, true, true, true, true, true, true, true, true, true, true, true, true, true, true, true, true, true, true, true, true, true, true, true, true, true, true, true, true, true, true, true, true, true, true, true, true, true, true, true, true, true, true, true, true, true, true, true, true, true, true, true, true, true, true, true, true, true, true, true, true, true, true, true, true, true, true, true, true, true, true, true, true, true, true, true, true, true, true, true, true, true, true, true, true, true, true, true, true, true, false, false, false, true, true, true, true, true, true, true, true, true, true, true, true, true, true, true, true, true, true, true, true] [] a4_l4))) (
  .seq (.reg [⟨some 161, .call 6 [], none⟩,
      ⟨some 6, .cp (.t 161), none⟩]) (
  .ret)))))))))))))
def af4 : AFn := ⟨162, 1, [.t 6], a4⟩
theorem ak4 : chkF Try.prog 4 af4 = true := by kernel_rfl

end Go.Proofs.Ytfkihagcgjombaa

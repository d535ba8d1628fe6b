/- The functions as data, and that they are the program's. -/
import Derived.Test.YtkcdeefnkbbacaaAwN
set_option maxRecDepth 100000
namespace Go.Proofs.Ytkcdeefnkbbacaa
open Go.RowKit
-- f93 fingerpost/item.Bytes  boxes 1 notes []
def a93 : AC := .seq (.reg [⟨some 1, .box 0 4 (.t 0), none⟩,
      ⟨some 2, .cp (.c (.str [])), none⟩,
      ⟨some 3, .cp (.c (.int .i64 0)), none⟩]) (
  .seq (.seq (.reg [⟨some 6, .ld (some 4) (.t 1), none⟩,
      ⟨some 7, .call 95 [.t 6], none⟩,
      ⟨some 8, .un .not (.t 7), none⟩]) (
  .cond (.t 8) (
    .seq (.reg [⟨some 2, .cp (.c (.str [])), none⟩,
        ⟨some 3, .cp (.c (.int .i64 1)), none⟩]) (
    .ret)) (
    .skip))) (
  .seq (.reg [⟨some 9, .fa 3 (.t 1), none⟩,
      ⟨some 10, .ld none (.t 9), none⟩,
      ⟨some 4, .cp (.t 10), none⟩]) (
  .seq (.seq (.reg [⟨some 11, .cp (.t 4), none⟩,
      ⟨some 12, .bin .eql (.t 11) (.c (.int .i64 (-1))), none⟩]) (
  .cond (.t 12) (
    .reg [⟨some 4, .cp (.c (.int .i64 255)), none⟩]) (
    .skip))) (
  .seq (.reg [⟨some 13, .fa 0 (.t 1), none⟩,
      ⟨some 14, .ld none (.t 13), none⟩,
      ⟨some 15, .bin .mul (.c (.int .i64 16)) (.t 14), none⟩,
      ⟨some 16, .fa 1 (.t 1), none⟩,
      ⟨some 17, .ld none (.t 16), none⟩,
      ⟨some 18, .bin .add (.t 15) (.t 17), none⟩,
      ⟨some 19, .cv (.int .u64) (.t 18), none⟩,
      ⟨some 20, .call 100 [.t 19, .c (.int .i64 1)], none⟩,
      ⟨some 5, .cp (.t 20), none⟩]) (
  .seq (.reg [⟨some 21, .cp (.t 5), none⟩,
      ⟨some 22, .fa 2 (.t 1), none⟩,
      ⟨some 23, .ld none (.t 22), none⟩,
      ⟨some 24, .cv (.int .u64) (.t 23), none⟩,
      ⟨some 25, .call 100 [.t 24, .c (.int .i64 4)], none⟩,
      ⟨some 26, .bin .add (.t 21) (.t 25), none⟩,
      ⟨some 27, .cp (.t 4), none⟩,
      ⟨some 28, .cv (.int .u64) (.t 27), none⟩,
      ⟨some 29, .call 100 [.t 28, .c (.int .i64 1)], none⟩,
      ⟨some 30, .bin .add (.t 26) (.t 29), none⟩,
      ⟨some 2, .cp (.t 30), none⟩,
      ⟨some 3, .cp (.c (.int .i64 0)), none⟩]) (
  .ret))))))
def af93 : AFn := ⟨31, 1, [.t 2, .t 3], a93⟩
theorem ak93 : chkF Try.prog 93 af93 = true := by kernel_rfl

-- f94 fingerpost/item.Read  boxes 3 notes []
def a94_l0 : AC := .seq (.reg [⟨some 20, .bin .lss (.t 19) (.c (.int .i64 3)), none⟩]) (
  .seq (.cond (.t 20) (
    .skip) (
    .exit 0)) (
  .seq (.block 1 (
    .seq (.reg [⟨some 21, .cp (.t 19), none⟩,
        ⟨some 22, .ixA 3 (.t 18) (.t 19), none⟩,
        ⟨some 7, .cp (.t 21), none⟩,
        ⟨some 8, .cp (.t 22), none⟩]) (
    .seq (.reg [⟨some 24, .cp (.t 6), none⟩,
        ⟨some 25, .cp (.t 8), none⟩,
        ⟨some 26, .call 82 [.t 24, .t 25], none⟩,
        ⟨some 23, .tk 26, none⟩,
        ⟨some 27, .ext (.t 23) 0, none⟩,
        ⟨some 28, .ext (.t 23) 1, none⟩,
        ⟨some 29, .ext (.t 23) 2, none⟩,
        ⟨some 9, .cp (.t 27), none⟩,
        ⟨some 10, .cp (.t 28), none⟩,
        ⟨some 11, .cp (.t 29), none⟩]) (
    .seq (.seq (.reg [⟨some 30, .cp (.t 11), none⟩,
        ⟨some 31, .bin .neq (.t 30) (.c (.int .i64 0)), none⟩]) (
    .cond (.t 31) (
      .seq (.reg [⟨some 32, .bld [.int .i64 0, .int .i64 0, .int .u32 0, .int .i64 0] [], none⟩,
          ⟨some 33, .cp (.t 11), none⟩,
          ⟨none, .st 4 (.t 2) (.t 32), none⟩,
          ⟨some 3, .cp (.c (.str [])), none⟩,
          ⟨some 4, .cp (.t 33), none⟩]) (
      .ret)) (
      .skip))) (
    .reg [⟨some 34, .cp (.t 7), none⟩,
        ⟨some 35, .cp (.t 9), none⟩,
        ⟨some 36, .cv (.int .i64) (.t 35), none⟩,
        ⟨some 37, .cp (.t 10), none⟩,
        ⟨some 38, .ia 1 (some 3) (.t 5) (.t 34), none⟩,
        ⟨none, .st 1 (.t 38) (.t 36), none⟩,
        ⟨some 6, .cp (.t 37), none⟩]))))) (
  .reg [⟨some 39, .bin .add (.t 19) (.c (.int .i64 1)), none⟩,
      ⟨some 19, .cp (.t 39), none⟩])))
def a94 : AC := .seq (.reg [⟨some 2, .alloc 0 4 [.int .i64 0, .int .i64 0, .int .u32 0, .int .i64 0], none⟩,
      ⟨some 3, .cp (.c (.str [])), none⟩,
      ⟨some 4, .cp (.c (.int .i64 0)), none⟩]) (
  .seq (.seq (.reg [⟨some 13, .cp (.t 0), none⟩,
      ⟨some 14, .lenS (.t 13), none⟩,
      ⟨some 15, .bin .lss (.t 14) (.c (.int .i64 6)), none⟩]) (
  .cond (.t 15) (
    .seq (.reg [⟨some 16, .bld [.int .i64 0, .int .i64 0, .int .u32 0, .int .i64 0] [], none⟩,
        ⟨none, .st 4 (.t 2) (.t 16), none⟩,
        ⟨some 3, .cp (.c (.str [])), none⟩,
        ⟨some 4, .cp (.c (.int .i64 2)), none⟩]) (
    .ret)) (
    .skip))) (
  .seq (.reg [⟨some 5, .alloc 1 3 [.int .i64 0, .int .i64 0, .int .i64 0], none⟩]) (
  .seq (.reg [⟨some 17, .cp (.t 0), none⟩,
      ⟨some 6, .cp (.t 17), none⟩]) (
  .seq (.seq (.reg [⟨some 18, .bld [.int .i64 0, .int .i64 0, .int .i64 0] [(0, 1, .c (.int .i64 1)), (1, 1, .c (.int .i64 4)), (2, 1, .c (.int .i64 1))], none⟩,
      ⟨some 19, .cp (.c (.int .i64 0)), none⟩]) (
  .block 0 (
    .loop [false, false, false, true, true, false, false, true, true, true, true, true, false, false, false, false, false, false, false, false, true, true, true, true, true, true, true, true, true, true, true, true, true, true, true, true, true, true, true, true] [] a94_l0))) (
  .seq (.seq (.reg [⟨some 40, .ia 1 (some 3) (.t 5) (.c (.int .i64 2)), none⟩,
      ⟨some 41, .ld none (.t 40), none⟩,
      ⟨some 42, .bin .eql (.t 41) (.c (.int .i64 255)), none⟩]) (
  .cond (.t 42) (
    .reg [⟨some 43, .ia 1 (some 3) (.t 5) (.c (.int .i64 2)), none⟩,
        ⟨none, .st 1 (.t 43) (.c (.int .i64 (-1))), none⟩]) (
    .skip))) (
  .seq (.reg [⟨some 44, .ia 1 (some 3) (.t 5) (.c (.int .i64 0)), none⟩,
      ⟨some 45, .ld none (.t 44), none⟩,
      ⟨some 46, .bin .quo (.t 45) (.c (.int .i64 16)), none⟩,
      ⟨some 47, .ia 1 (some 3) (.t 5) (.c (.int .i64 0)), none⟩,
      ⟨some 48, .ld none (.t 47), none⟩,
      ⟨some 49, .bin .rem (.t 48) (.c (.int .i64 16)), none⟩,
      ⟨some 50, .ia 1 (some 3) (.t 5) (.c (.int .i64 1)), none⟩,
      ⟨some 51, .ld none (.t 50), none⟩,
      ⟨some 52, .cv (.int .u32) (.t 51), none⟩,
      ⟨some 53, .ia 1 (some 3) (.t 5) (.c (.int .i64 2)), none⟩,
      ⟨some 54, .ld none (.t 53), none⟩,
      ⟨some 55, .bld [.int .i64 0, .int .i64 0, .int .u32 0, .int .i64 0] [(0, 1, .t 46), (1, 1, .t 49), (2, 1, .t 52), (3, 1, .t 54)], none⟩,
      ⟨some 12, .alloc 2 4 [.int .i64 0, .int .i64 0, .int .u32 0, .int .i64 0], none⟩,
      ⟨none, .st 4 (.t 12) (.t 55), none⟩]) (
  .seq (.seq (.reg [⟨some 56, .ld (some 4) (.t 12), none⟩,
      ⟨some 57, .call 95 [.t 56], none⟩,
      ⟨some 58, .un .not (.t 57), none⟩]) (
  .cond (.t 58) (
    .seq (.reg [⟨some 59, .bld [.int .i64 0, .int .i64 0, .int .u32 0, .int .i64 0] [], none⟩,
        ⟨none, .st 4 (.t 2) (.t 59), none⟩,
        ⟨some 3, .cp (.c (.str [])), none⟩,
        ⟨some 4, .cp (.c (.int .i64 3)), none⟩]) (
    .ret)) (
    .skip))) (
  .seq (.reg [⟨some 60, .ld (some 4) (.t 12), none⟩,
      ⟨some 61, .cp (.t 6), none⟩,
      ⟨none, .st 4 (.t 2) (.t 60), none⟩,
      ⟨some 3, .cp (.t 61), none⟩,
      ⟨some 4, .cp (.c (.int .i64 0)), none⟩]) (
  .ret)))))))))
def af94 : AFn := ⟨62, 3, [.c 2 (some 4), .t 3, .t 4], a94⟩
theorem ak94 : chkF Try.prog 94 af94 = true := by kernel_rfl

-- f95 fingerpost/item.Right  boxes 1 notes []
def a95 : AC := .seq (.reg [⟨some 1, .box 0 4 (.t 0), none⟩,
      ⟨some 2, .cp (.c (.bool false)), none⟩]) (
  .seq (.seq (.reg [⟨some 3, .fa 0 (.t 1), none⟩,
      ⟨some 4, .ld none (.t 3), none⟩,
      ⟨some 5, .call 88 [.t 4], none⟩,
      ⟨some 6, .un .not (.t 5), none⟩,
      ⟨some 7, .cp (.t 6), none⟩,
      ⟨some 8, .fa 1 (.t 1), some (7, false)⟩,
      ⟨some 9, .ld none (.t 8), some (7, false)⟩,
      ⟨some 10, .bin .lss (.t 9) (.c (.int .i64 0)), some (7, false)⟩,
      ⟨some 11, .pick (.t 7) (.c (.bool true)) (.t 10), none⟩,
      ⟨some 12, .cp (.t 11), none⟩,
      ⟨some 13, .fa 1 (.t 1), some (12, false)⟩,
      ⟨some 14, .ld none (.t 13), some (12, false)⟩,
      ⟨some 15, .bin .gtr (.t 14) (.c (.int .i64 2)), some (12, false)⟩,
      ⟨some 16, .pick (.t 12) (.c (.bool true)) (.t 15), none⟩]) (
  .cond (.t 16) (
    .seq (.reg [⟨some 2, .cp (.c (.bool false)), none⟩]) (
    .ret)) (
    .skip))) (
  .seq (.seq (.reg [⟨some 17, .fa 2 (.t 1), none⟩,
      ⟨some 18, .ld none (.t 17), none⟩]) (
  .block 0 (
    .seq (.block 2 (
      .block 1 (
        .seq (.seq (.seq (.reg [⟨some 20, .bin .eql (.t 18) (.c (.int .u32 0)), none⟩,
            ⟨some 19, .cp (.t 20), none⟩]) (
        .cond (.t 19) (
          .exit 1) (
          .skip))) (
        .seq (.reg [⟨some 22, .bin .eql (.t 18) (.c (.int .u32 4294967295)), none⟩,
            ⟨some 21, .cp (.t 22), none⟩]) (
        .cond (.t 21) (
          .exit 2) (
          .skip)))) (
        .exit 0)))) (
    .seq (.seq (.reg [⟨some 23, .fa 3 (.t 1), none⟩,
        ⟨some 24, .ld none (.t 23), none⟩,
        ⟨some 25, .bin .eql (.t 24) (.c (.int .i64 (-1))), none⟩,
        ⟨some 2, .cp (.t 25), none⟩]) (
    .ret)) (
    .exit 0))))) (
  .seq (.reg [⟨some 26, .fa 3 (.t 1), none⟩,
      ⟨some 27, .ld none (.t 26), none⟩,
      ⟨some 28, .call 88 [.t 27], none⟩,
      ⟨some 29, .cp (.t 28), none⟩,
      ⟨some 30, .fa 3 (.t 1), some (29, true)⟩,
      ⟨some 31, .ld none (.t 30), some (29, true)⟩,
      ⟨some 32, .fa 0 (.t 1), some (29, true)⟩,
      ⟨some 33, .ld none (.t 32), some (29, true)⟩,
      ⟨some 34, .bin .neq (.t 31) (.t 33), some (29, true)⟩,
      ⟨some 35, .pick (.t 29) (.t 34) (.c (.bool false)), none⟩,
      ⟨some 36, .cp (.t 35), none⟩,
      ⟨some 37, .fa 2 (.t 1), some (36, true)⟩,
      ⟨some 38, .ld none (.t 37), some (36, true)⟩,
      ⟨some 39, .bin .leq (.t 38) (.c (.int .u32 983040)), some (36, true)⟩,
      ⟨some 40, .pick (.t 36) (.t 39) (.c (.bool false)), none⟩,
      ⟨some 2, .cp (.t 40), none⟩]) (
  .ret))))
def af95 : AFn := ⟨41, 1, [.t 2], a95⟩
theorem ak95 : chkF Try.prog 95 af95 = true := by kernel_rfl

-- f24 fingerpost/item.Unall  boxes 1 notes []
def a24_l0 : AC := .seq (.seq (.reg [⟨some 8, .cp (.t 0), none⟩,
      ⟨some 9, .lenS (.t 8), none⟩,
      ⟨some 10, .bin .gtr (.t 9) (.c (.int .i64 0)), none⟩]) (
  .cond (.t 10) (
    .skip) (
    .exit 0))) (
  .block 1 (
    .seq (.reg [⟨some 12, .cp (.t 0), none⟩,
        ⟨some 13, .call 94 [.t 12], none⟩,
        ⟨some 11, .tk 13, none⟩,
        ⟨some 14, .ext (.t 11) 0, none⟩,
        ⟨some 15, .ext (.t 11) 1, none⟩,
        ⟨some 16, .ext (.t 11) 2, none⟩,
        ⟨some 5, .alloc 0 4 [.int .i64 0, .int .i64 0, .int .u32 0, .int .i64 0], none⟩,
        ⟨none, .st 4 (.t 5) (.t 14), none⟩,
        ⟨some 6, .cp (.t 15), none⟩,
        ⟨some 7, .cp (.t 16), none⟩]) (
    .seq (.seq (.reg [⟨some 17, .cp (.t 7), none⟩,
        ⟨some 18, .bin .neq (.t 17) (.c (.int .i64 0)), none⟩]) (
    .cond (.t 18) (
      .seq (.reg [⟨some 19, .cp (.t 7), none⟩,
          ⟨some 2, .cp (.c (.sl .own 4 [])), none⟩,
          ⟨some 3, .cp (.t 19), none⟩]) (
      .ret)) (
      .skip))) (
    .seq (.seq (.reg [⟨some 20, .cp (.t 4), none⟩,
        ⟨some 21, .len (.t 20), none⟩,
        ⟨some 22, .bin .geq (.t 21) (.c (.int .i64 48)), none⟩]) (
    .cond (.t 22) (
      .seq (.reg [⟨some 2, .cp (.c (.sl .own 4 [])), none⟩,
          ⟨some 3, .cp (.c (.int .i64 4)), none⟩]) (
      .ret)) (
      .skip))) (
    .seq (.reg [⟨some 23, .tk 4, none⟩,
        ⟨some 24, .ld (some 4) (.t 5), none⟩,
        ⟨some 25, .bs 4 [.t 24], none⟩,
        ⟨some 26, .app 4 32 (.t 23) (.t 25), none⟩,
        ⟨some 4, .tk 26, none⟩]) (
    .reg [⟨some 27, .cp (.t 6), none⟩,
        ⟨some 0, .cp (.t 27), none⟩]))))))
def a24 : AC := .seq (.reg [⟨some 2, .cp (.c (.sl .own 4 [])), none⟩,
      ⟨some 3, .cp (.c (.int .i64 0)), none⟩]) (
  .seq (.reg [⟨some 4, .cp (.c (.sl .own 4 [])), none⟩]) (
  .seq (.block 0 (
    .loop [false, false, true, true, false, true, true, true, true, true, true, true, true, true, true, true, true, true, true, true, true, true, true, true, true, true, true, true] [0] a24_l0)) (
  .seq (.reg [⟨some 28, .tk 4, none⟩,
      ⟨some 2, .tk 28, none⟩,
      ⟨some 3, .cp (.c (.int .i64 0)), none⟩]) (
  .ret))))
def af24 : AFn := ⟨29, 1, [.t 2, .t 3], a24⟩
theorem ak24 : chkF Try.prog 24 af24 = true := by kernel_rfl

-- f25 fingerpost/fingerpostlaw07.same  boxes 0 notes []
def a25_l0 : AC := .seq (.reg [⟨some 14, .bin .lss (.t 13) (.t 12), none⟩]) (
  .seq (.cond (.t 14) (
    .skip) (
    .exit 0)) (
  .seq (.block 1 (
    .seq (.reg [⟨some 15, .cp (.t 13), none⟩,
        ⟨some 5, .cp (.t 15), none⟩]) (
    .seq (.drw [⟨some 16, .cp (.t 0), none⟩,
        ⟨some 17, .cp (.t 5), none⟩,
        ⟨some 18, .iaE 4 (.t 16) (.t 17), none⟩,
        ⟨some 19, .ld (some 4) (.t 18), none⟩,
        ⟨some 20, .cp (.t 1), none⟩,
        ⟨some 21, .cp (.t 5), none⟩,
        ⟨some 22, .iaE 4 (.t 20) (.t 21), none⟩,
        ⟨some 23, .ld (some 4) (.t 22), none⟩,
        ⟨some 24, .eqA true [.i, .i, .i, .i] (.t 19) (.t 23), none⟩] []) (
    .cond (.t 24) (
      .seq (.reg [⟨some 4, .cp (.c (.bool false)), none⟩]) (
      .ret)) (
      .skip))))) (
  .reg [⟨some 25, .bin .add (.t 13) (.c (.int .i64 1)), none⟩,
      ⟨some 13, .cp (.t 25), none⟩])))
def a25 : AC := .seq (.reg [⟨some 4, .cp (.c (.bool false)), none⟩]) (
  .seq (.seq (.reg [⟨some 6, .cp (.t 0), none⟩,
      ⟨some 7, .len (.t 6), none⟩,
      ⟨some 8, .cp (.t 1), none⟩,
      ⟨some 9, .len (.t 8), none⟩,
      ⟨some 10, .bin .neq (.t 7) (.t 9), none⟩]) (
  .cond (.t 10) (
    .seq (.reg [⟨some 4, .cp (.c (.bool false)), none⟩]) (
    .ret)) (
    .skip))) (
  .seq (.seq (.reg [⟨some 11, .cp (.t 0), none⟩,
      ⟨some 12, .len (.t 11), none⟩,
      ⟨some 13, .cp (.c (.int .i64 0)), none⟩]) (
  .block 0 (
    .loop [false, false, false, false, true, true, false, false, false, false, false, false, false, false, true, true, true, true, true, true, true, true, true, true, true, true] [] a25_l0))) (
  .seq (.reg [⟨some 4, .cp (.c (.bool true)), none⟩]) (
  .ret))))
def af25 : AFn := ⟨26, 0, [.t 4], a25⟩
theorem ak25 : chkF Try.prog 25 af25 = true := by kernel_rfl

-- f131 fingerpost/fingerpostref07.Bytes  boxes 1 notes []
def a131 : AC := .seq (.reg [⟨some 1, .box 0 4 (.t 0), none⟩,
      ⟨some 2, .cp (.c (.str [])), none⟩,
      ⟨some 3, .cp (.c (.int .i64 0)), none⟩]) (
  .seq (.seq (.reg [⟨some 4, .ld (some 4) (.t 1), none⟩,
      ⟨some 5, .call 139 [.t 4], none⟩,
      ⟨some 6, .un .not (.t 5), none⟩]) (
  .cond (.t 6) (
    .seq (.reg [⟨some 2, .cp (.c (.str [])), none⟩,
        ⟨some 3, .cp (.c (.int .i64 1)), none⟩]) (
    .ret)) (
    .skip))) (
  .seq (.drw [⟨some 7, .fa 0 (.t 1), none⟩,
      ⟨some 8, .ld none (.t 7), none⟩,
      ⟨some 9, .bin .mul (.t 8) (.c (.int .i64 16)), none⟩,
      ⟨some 10, .fa 1 (.t 1), none⟩,
      ⟨some 11, .ld none (.t 10), none⟩,
      ⟨some 12, .bin .add (.t 9) (.t 11), none⟩,
      ⟨some 13, .cv (.int .u64) (.t 12), none⟩,
      ⟨some 14, .call 80 [.t 13, .c (.int .i64 1)], none⟩,
      ⟨some 15, .fa 2 (.t 1), none⟩,
      ⟨some 16, .ld none (.t 15), none⟩,
      ⟨some 17, .cv (.int .u64) (.t 16), none⟩,
      ⟨some 18, .call 80 [.t 17, .c (.int .i64 4)], none⟩,
      ⟨some 19, .bin .add (.t 14) (.t 18), none⟩,
      ⟨some 20, .fa 3 (.t 1), none⟩,
      ⟨some 21, .ld none (.t 20), none⟩,
      ⟨some 22, .cv (.int .u64) (.t 21), none⟩,
      ⟨some 23, .call 80 [.t 22, .c (.int .i64 1)], none⟩,
      ⟨some 24, .bin .add (.t 19) (.t 23), none⟩,
      ⟨some 2, .cp (.t 24), none⟩,
      ⟨some 3, .cp (.c (.int .i64 0)), none⟩] []) (
  .ret)))
def af131 : AFn := ⟨25, 1, [.t 2, .t 3], a131⟩
theorem ak131 : chkF Try.prog 131 af131 = true := by kernel_rfl

-- f132 fingerpost/fingerpostref07.Read  boxes 2 notes []
def a132 : AC := .seq (.reg [⟨some 2, .alloc 0 4 [.int .i64 0, .int .i64 0, .int .u32 0, .int .i64 0], none⟩,
      ⟨some 3, .cp (.c (.str [])), none⟩,
      ⟨some 4, .cp (.c (.int .i64 0)), none⟩]) (
  .seq (.seq (.reg [⟨some 12, .cp (.t 0), none⟩,
      ⟨some 13, .lenS (.t 12), none⟩,
      ⟨some 14, .bin .lss (.t 13) (.c (.int .i64 6)), none⟩]) (
  .cond (.t 14) (
    .seq (.reg [⟨some 15, .bld [.int .i64 0, .int .i64 0, .int .u32 0, .int .i64 0] [], none⟩,
        ⟨none, .st 4 (.t 2) (.t 15), none⟩,
        ⟨some 3, .cp (.c (.str [])), none⟩,
        ⟨some 4, .cp (.c (.int .i64 2)), none⟩]) (
    .ret)) (
    .skip))) (
  .seq (.reg [⟨some 17, .cp (.t 0), none⟩,
      ⟨some 18, .call 85 [.t 17, .c (.int .i64 1)], none⟩,
      ⟨some 16, .tk 18, none⟩,
      ⟨some 19, .ext (.t 16) 0, none⟩,
      ⟨some 20, .ext (.t 16) 1, none⟩,
      ⟨some 21, .ext (.t 16) 2, none⟩,
      ⟨some 5, .cp (.t 19), none⟩,
      ⟨some 0, .cp (.t 20), none⟩,
      ⟨some 6, .cp (.t 21), none⟩]) (
  .seq (.reg [⟨some 23, .cp (.t 0), none⟩,
      ⟨some 24, .call 85 [.t 23, .c (.int .i64 4)], none⟩,
      ⟨some 22, .tk 24, none⟩,
      ⟨some 25, .ext (.t 22) 0, none⟩,
      ⟨some 26, .ext (.t 22) 1, none⟩,
      ⟨some 27, .ext (.t 22) 2, none⟩,
      ⟨some 7, .cp (.t 25), none⟩,
      ⟨some 0, .cp (.t 26), none⟩,
      ⟨some 8, .cp (.t 27), none⟩]) (
  .seq (.reg [⟨some 29, .cp (.t 0), none⟩,
      ⟨some 30, .call 85 [.t 29, .c (.int .i64 1)], none⟩,
      ⟨some 28, .tk 30, none⟩,
      ⟨some 31, .ext (.t 28) 0, none⟩,
      ⟨some 32, .ext (.t 28) 1, none⟩,
      ⟨some 33, .ext (.t 28) 2, none⟩,
      ⟨some 9, .cp (.t 31), none⟩,
      ⟨some 0, .cp (.t 32), none⟩,
      ⟨some 10, .cp (.t 33), none⟩]) (
  .seq (.reg [⟨some 34, .cp (.t 5), none⟩,
      ⟨some 35, .bin .quo (.t 34) (.c (.int .u64 16)), none⟩,
      ⟨some 36, .cv (.int .i64) (.t 35), none⟩,
      ⟨some 37, .cp (.t 5), none⟩,
      ⟨some 38, .bin .rem (.t 37) (.c (.int .u64 16)), none⟩,
      ⟨some 39, .cv (.int .i64) (.t 38), none⟩,
      ⟨some 40, .cp (.t 7), none⟩,
      ⟨some 41, .cv (.int .u32) (.t 40), none⟩,
      ⟨some 42, .cp (.t 9), none⟩,
      ⟨some 43, .cv (.int .i64) (.t 42), none⟩,
      ⟨some 44, .bld [.int .i64 0, .int .i64 0, .int .u32 0, .int .i64 0] [(0, 1, .t 36), (1, 1, .t 39), (2, 1, .t 41), (3, 1, .t 43)], none⟩,
      ⟨some 11, .alloc 1 4 [.int .i64 0, .int .i64 0, .int .u32 0, .int .i64 0], none⟩,
      ⟨none, .st 4 (.t 11) (.t 44), none⟩]) (
  .seq (.seq (.reg [⟨some 45, .cp (.t 9), none⟩,
      ⟨some 46, .bin .eql (.t 45) (.c (.int .u64 255)), none⟩]) (
  .cond (.t 46) (
    .reg [⟨some 47, .fa 3 (.t 11), none⟩,
        ⟨none, .st 1 (.t 47) (.c (.int .i64 (-1))), none⟩]) (
    .skip))) (
  .seq (.seq (.reg [⟨some 48, .ld (some 4) (.t 11), none⟩,
      ⟨some 49, .call 139 [.t 48], none⟩,
      ⟨some 50, .un .not (.t 49), none⟩]) (
  .cond (.t 50) (
    .seq (.reg [⟨some 51, .bld [.int .i64 0, .int .i64 0, .int .u32 0, .int .i64 0] [], none⟩,
        ⟨none, .st 4 (.t 2) (.t 51), none⟩,
        ⟨some 3, .cp (.c (.str [])), none⟩,
        ⟨some 4, .cp (.c (.int .i64 3)), none⟩]) (
    .ret)) (
    .skip))) (
  .seq (.reg [⟨some 52, .ld (some 4) (.t 11), none⟩,
      ⟨some 53, .cp (.t 0), none⟩,
      ⟨none, .st 4 (.t 2) (.t 52), none⟩,
      ⟨some 3, .cp (.t 53), none⟩,
      ⟨some 4, .cp (.c (.int .i64 0)), none⟩]) (
  .ret)))))))))
def af132 : AFn := ⟨54, 2, [.c 2 (some 4), .t 3, .t 4], a132⟩
theorem ak132 : chkF Try.prog 132 af132 = true := by kernel_rfl

-- f139 fingerpost/fingerpostref07.Right  boxes 1 notes []
def a139 : AC := .seq (.reg [⟨some 1, .box 0 4 (.t 0), none⟩,
      ⟨some 2, .cp (.c (.bool false)), none⟩]) (
  .seq (.seq (.reg [⟨some 3, .fa 0 (.t 1), none⟩,
      ⟨some 4, .ld none (.t 3), none⟩,
      ⟨some 5, .call 90 [.t 4], none⟩,
      ⟨some 6, .un .not (.t 5), none⟩,
      ⟨some 7, .cp (.t 6), none⟩,
      ⟨some 8, .fa 1 (.t 1), some (7, false)⟩,
      ⟨some 9, .ld none (.t 8), some (7, false)⟩,
      ⟨some 10, .bin .lss (.t 9) (.c (.int .i64 0)), some (7, false)⟩,
      ⟨some 11, .pick (.t 7) (.c (.bool true)) (.t 10), none⟩,
      ⟨some 12, .cp (.t 11), none⟩,
      ⟨some 13, .fa 1 (.t 1), some (12, false)⟩,
      ⟨some 14, .ld none (.t 13), some (12, false)⟩,
      ⟨some 15, .bin .gtr (.t 14) (.c (.int .i64 2)), some (12, false)⟩,
      ⟨some 16, .pick (.t 12) (.c (.bool true)) (.t 15), none⟩]) (
  .cond (.t 16) (
    .seq (.reg [⟨some 2, .cp (.c (.bool false)), none⟩]) (
    .ret)) (
    .skip))) (
  .seq (.reg [⟨some 17, .fa 2 (.t 1), none⟩,
      ⟨some 18, .ld none (.t 17), none⟩]) (
  .block 0 (
    .seq (.seq (.reg [⟨some 35, .bin .eql (.t 18) (.c (.int .u32 4294967295)), none⟩,
        ⟨some 34, .cp (.t 35), none⟩]) (
    .cond (.t 34) (
      .skip) (
      .reg [⟨some 36, .bin .eql (.t 18) (.c (.int .u32 0)), none⟩,
          ⟨some 34, .cp (.t 36), none⟩]))) (
    .cond (.t 34) (
      .seq (.reg [⟨some 37, .fa 3 (.t 1), none⟩,
          ⟨some 38, .ld none (.t 37), none⟩,
          ⟨some 39, .bin .eql (.t 38) (.c (.int .i64 (-1))), none⟩,
          ⟨some 2, .cp (.t 39), none⟩]) (
      .ret)) (
      .seq (.reg [⟨some 19, .fa 3 (.t 1), none⟩,
          ⟨some 20, .ld none (.t 19), none⟩,
          ⟨some 21, .call 90 [.t 20], none⟩,
          ⟨some 22, .cp (.t 21), none⟩,
          ⟨some 23, .fa 3 (.t 1), some (22, true)⟩,
          ⟨some 24, .ld none (.t 23), some (22, true)⟩,
          ⟨some 25, .fa 0 (.t 1), some (22, true)⟩,
          ⟨some 26, .ld none (.t 25), some (22, true)⟩,
          ⟨some 27, .bin .neq (.t 24) (.t 26), some (22, true)⟩,
          ⟨some 28, .pick (.t 22) (.t 27) (.c (.bool false)), none⟩,
          ⟨some 29, .cp (.t 28), none⟩,
          ⟨some 30, .fa 2 (.t 1), some (29, true)⟩,
          ⟨some 31, .ld none (.t 30), some (29, true)⟩,
          ⟨some 32, .bin .leq (.t 31) (.c (.int .u32 983040)), some (29, true)⟩,
          ⟨some 33, .pick (.t 29) (.t 32) (.c (.bool false)), none⟩,
          ⟨some 2, .cp (.t 33), none⟩]) (
      .ret)))))))
def af139 : AFn := ⟨40, 1, [.t 2], a139⟩
theorem ak139 : chkF Try.prog 139 af139 = true := by kernel_rfl

-- f101 fingerpost/fingerpostref07.All  boxes 1 notes []
def a101_l0 : AC := .seq (.reg [⟨some 12, .bin .lss (.t 11) (.t 10), none⟩]) (
  .seq (.cond (.t 12) (
    .skip) (
    .exit 0)) (
  .seq (.block 1 (
    .seq (.reg [⟨some 13, .cp (.t 11), none⟩,
        ⟨some 14, .iaE 4 (.t 9) (.t 11), none⟩,
        ⟨some 15, .ld (some 4) (.t 14), none⟩,
        ⟨some 6, .alloc 0 4 [.int .i64 0, .int .i64 0, .int .u32 0, .int .i64 0], none⟩,
        ⟨some 5, .cp (.t 13), none⟩,
        ⟨none, .st 4 (.t 6) (.t 15), none⟩]) (
    .seq (.reg [⟨some 17, .ld (some 4) (.t 6), none⟩,
        ⟨some 18, .call 131 [.t 17], none⟩,
        ⟨some 16, .tk 18, none⟩,
        ⟨some 19, .ext (.t 16) 0, none⟩,
        ⟨some 20, .ext (.t 16) 1, none⟩,
        ⟨some 7, .cp (.t 19), none⟩,
        ⟨some 8, .cp (.t 20), none⟩]) (
    .seq (.seq (.reg [⟨some 21, .cp (.t 8), none⟩,
        ⟨some 22, .bin .neq (.t 21) (.c (.int .i64 0)), none⟩]) (
    .cond (.t 22) (
      .seq (.reg [⟨some 23, .cp (.t 8), none⟩,
          ⟨some 2, .cp (.c (.str [])), none⟩,
          ⟨some 3, .cp (.t 23), none⟩]) (
      .ret)) (
      .skip))) (
    .seq (.seq (.reg [⟨some 24, .cp (.t 5), none⟩,
        ⟨some 25, .bin .geq (.t 24) (.c (.int .i64 48)), none⟩]) (
    .cond (.t 25) (
      .seq (.reg [⟨some 2, .cp (.c (.str [])), none⟩,
          ⟨some 3, .cp (.c (.int .i64 4)), none⟩]) (
      .ret)) (
      .skip))) (
    .reg [⟨some 26, .cp (.t 4), none⟩,
        ⟨some 27, .cp (.t 7), none⟩,
        ⟨some 28, .bin .add (.t 26) (.t 27), none⟩,
        ⟨some 4, .cp (.t 28), none⟩])))))) (
  .reg [⟨some 29, .bin .add (.t 11) (.c (.int .i64 1)), none⟩,
      ⟨some 11, .cp (.t 29), none⟩])))
def a101 : AC := .seq (.reg [⟨some 2, .cp (.c (.str [])), none⟩,
      ⟨some 3, .cp (.c (.int .i64 0)), none⟩]) (
  .seq (.reg [⟨some 4, .cp (.c (.str [])), none⟩]) (
  .seq (.seq (.reg [⟨some 9, .tk 0, none⟩,
      ⟨some 10, .len (.t 9), none⟩,
      ⟨some 11, .cp (.c (.int .i64 0)), none⟩]) (
  .block 0 (
    .loop [false, false, true, true, false, true, true, true, true, false, false, false, true, true, true, true, true, true, true, true, true, true, true, true, true, true, true, true, true, true] [0] a101_l0))) (
  .seq (.reg [⟨some 30, .cp (.t 4), none⟩,
      ⟨some 2, .cp (.t 30), none⟩,
      ⟨some 3, .cp (.c (.int .i64 0)), none⟩]) (
  .ret))))
def af101 : AFn := ⟨31, 1, [.t 2, .t 3], a101⟩
theorem ak101 : chkF Try.prog 101 af101 = true := by kernel_rfl

-- f102 fingerpost/fingerpostref07.Unall  boxes 1 notes []
def a102_l0 : AC := .seq (.seq (.reg [⟨some 8, .cp (.t 0), none⟩,
      ⟨some 9, .bin .neq (.t 8) (.c (.str [])), none⟩]) (
  .cond (.t 9) (
    .skip) (
    .exit 0))) (
  .block 1 (
    .seq (.reg [⟨some 11, .cp (.t 0), none⟩,
        ⟨some 12, .call 132 [.t 11], none⟩,
        ⟨some 10, .tk 12, none⟩,
        ⟨some 13, .ext (.t 10) 0, none⟩,
        ⟨some 14, .ext (.t 10) 1, none⟩,
        ⟨some 15, .ext (.t 10) 2, none⟩,
        ⟨some 5, .alloc 0 4 [.int .i64 0, .int .i64 0, .int .u32 0, .int .i64 0], none⟩,
        ⟨none, .st 4 (.t 5) (.t 13), none⟩,
        ⟨some 6, .cp (.t 14), none⟩,
        ⟨some 7, .cp (.t 15), none⟩]) (
    .seq (.seq (.reg [⟨some 16, .cp (.t 7), none⟩,
        ⟨some 17, .bin .neq (.t 16) (.c (.int .i64 0)), none⟩]) (
    .cond (.t 17) (
      .seq (.reg [⟨some 18, .cp (.t 7), none⟩,
          ⟨some 2, .cp (.c (.sl .own 4 [])), none⟩,
          ⟨some 3, .cp (.t 18), none⟩]) (
      .ret)) (
      .skip))) (
    .seq (.seq (.reg [⟨some 19, .cp (.t 4), none⟩,
        ⟨some 20, .len (.t 19), none⟩,
        ⟨some 21, .bin .geq (.t 20) (.c (.int .i64 48)), none⟩]) (
    .cond (.t 21) (
      .seq (.reg [⟨some 2, .cp (.c (.sl .own 4 [])), none⟩,
          ⟨some 3, .cp (.c (.int .i64 4)), none⟩]) (
      .ret)) (
      .skip))) (
    .seq (.reg [⟨some 22, .tk 4, none⟩,
        ⟨some 23, .ld (some 4) (.t 5), none⟩,
        ⟨some 24, .bs 4 [.t 23], none⟩,
        ⟨some 25, .app 4 32 (.t 22) (.t 24), none⟩,
        ⟨some 4, .tk 25, none⟩]) (
    .reg [⟨some 26, .cp (.t 6), none⟩,
        ⟨some 0, .cp (.t 26), none⟩]))))))
def a102 : AC := .seq (.reg [⟨some 2, .cp (.c (.sl .own 4 [])), none⟩,
      ⟨some 3, .cp (.c (.int .i64 0)), none⟩]) (
  .seq (.reg [⟨some 4, .cp (.c (.sl .own 4 [])), none⟩]) (
  .seq (.block 0 (
    .loop [false, false, true, true, false, true, true, true, true, true, true, true, true, true, true, true, true, true, true, true, true, true, true, true, true, true, true] [0] a102_l0)) (
  .seq (.reg [⟨some 27, .tk 4, none⟩,
      ⟨some 2, .tk 27, none⟩,
      ⟨some 3, .cp (.c (.int .i64 0)), none⟩]) (
  .ret))))
def af102 : AFn := ⟨28, 1, [.t 2, .t 3], a102⟩
theorem ak102 : chkF Try.prog 102 af102 = true := by kernel_rfl

-- f4 fingerpost/fingerpostlaw07.ItemBack  boxes 0 notes []
def a4 : AC := .seq (.reg [⟨some 4, .cp (.c (.bool false)), none⟩]) (
  .seq (.seq (.reg [⟨some 13, .cp (.t 0), none⟩,
      ⟨some 14, .len (.t 13), none⟩,
      ⟨some 15, .bin .gtr (.t 14) (.c (.int .i64 100)), none⟩,
      ⟨some 16, .cp (.t 15), none⟩,
      ⟨some 17, .cp (.t 1), some (16, false)⟩,
      ⟨some 18, .lenS (.t 17), some (16, false)⟩,
      ⟨some 19, .bin .gtr (.t 18) (.c (.int .i64 1000)), some (16, false)⟩,
      ⟨some 20, .pick (.t 16) (.c (.bool true)) (.t 19), none⟩]) (
  .cond (.t 20) (
    .seq (.reg [⟨some 21, .call 22 [], none⟩,
        ⟨some 4, .cp (.t 21), none⟩]) (
    .ret)) (
    .skip))) (
  .seq (.seq (.reg [⟨some 23, .cp (.t 0), none⟩,
      ⟨some 24, .call 23 [.t 23], none⟩,
      ⟨some 22, .tk 24, none⟩,
      ⟨some 25, .ext (.t 22) 0, none⟩,
      ⟨some 26, .ext (.t 22) 1, none⟩,
      ⟨some 5, .cp (.t 25), none⟩,
      ⟨some 6, .cp (.t 26), none⟩]) (
  .seq (.reg [⟨some 27, .cp (.t 6), none⟩,
      ⟨some 28, .bin .eql (.t 27) (.c (.int .i64 0)), none⟩]) (
  .cond (.t 28) (
    .seq (.reg [⟨some 30, .cp (.t 5), none⟩,
        ⟨some 31, .call 24 [.t 30], none⟩,
        ⟨some 29, .tk 31, none⟩,
        ⟨some 32, .extt 29 0, none⟩,
        ⟨some 33, .ext (.t 29) 1, none⟩,
        ⟨some 7, .tk 32, none⟩,
        ⟨some 8, .cp (.t 33), none⟩]) (
    .seq (.reg [⟨some 34, .cp (.t 8), none⟩,
        ⟨some 35, .bin .neq (.t 34) (.c (.int .i64 0)), none⟩,
        ⟨some 36, .cp (.t 35), none⟩,
        ⟨some 37, .tk 7, some (36, false)⟩,
        ⟨some 38, .cp (.t 0), some (36, false)⟩,
        ⟨some 39, .call 25 [.t 37, .t 38], some (36, false)⟩,
        ⟨some 40, .un .not (.t 39), some (36, false)⟩,
        ⟨some 41, .pick (.t 36) (.c (.bool true)) (.t 40), none⟩,
        ⟨some 42, .cp (.t 41), none⟩,
        ⟨some 43, .cp (.t 5), some (42, false)⟩,
        ⟨some 44, .lenS (.t 43), some (42, false)⟩,
        ⟨some 45, .tk 0, some (42, false)⟩,
        ⟨some 46, .len (.t 45), some (42, false)⟩,
        ⟨some 47, .bin .mul (.c (.int .i64 6)) (.t 46), some (42, false)⟩,
        ⟨some 48, .bin .neq (.t 44) (.t 47), some (42, false)⟩,
        ⟨some 49, .pick (.t 42) (.c (.bool true)) (.t 48), none⟩]) (
    .cond (.t 49) (
      .seq (.reg [⟨some 4, .cp (.c (.bool false)), none⟩]) (
      .ret)) (
      .skip)))) (
    .skip)))) (
  .seq (.reg [⟨some 51, .cp (.t 1), none⟩,
      ⟨some 52, .call 24 [.t 51], none⟩,
      ⟨some 50, .tk 52, none⟩,
      ⟨some 53, .extt 50 0, none⟩,
      ⟨some 54, .ext (.t 50) 1, none⟩,
      ⟨some 9, .tk 53, none⟩,
      ⟨some 10, .cp (.t 54), none⟩]) (
  .seq (.seq (.reg [⟨some 55, .cp (.t 10), none⟩,
      ⟨some 56, .bin .neq (.t 55) (.c (.int .i64 0)), none⟩]) (
  .cond (.t 56) (
    .seq (.reg [⟨some 57, .tk 9, none⟩,
        ⟨some 58, .len (.t 57), none⟩,
        ⟨some 59, .bin .eql (.t 58) (.c (.int .i64 0)), none⟩,
        ⟨some 60, .cp (.t 59), none⟩,
        ⟨some 61, .call 22 [], some (60, true)⟩,
        ⟨some 62, .pick (.t 60) (.t 61) (.c (.bool false)), none⟩,
        ⟨some 4, .cp (.t 62), none⟩]) (
    .ret)) (
    .skip))) (
  .seq (.reg [⟨some 64, .tk 9, none⟩,
      ⟨some 65, .call 23 [.t 64], none⟩,
      ⟨some 63, .tk 65, none⟩,
      ⟨some 66, .ext (.t 63) 0, none⟩,
      ⟨some 67, .ext (.t 63) 1, none⟩,
      ⟨some 11, .cp (.t 66), none⟩,
      ⟨some 12, .cp (.t 67), none⟩]) (
  .seq (.reg [⟨some 68, .cp (.t 12), none⟩,
      ⟨some 69, .bin .eql (.t 68) (.c (.int .i64 0)), none⟩,
      ⟨some 70, .cp (.t 69), none⟩,
      ⟨some 71, .cp (.t 11), some (70, true)⟩,
      ⟨some 72, .cp (.t 1), some (70, true)⟩,
      ⟨some 73, .bin .eql (.t 71) (.t 72), some (70, true)⟩,
      ⟨some 74, .pick (.t 70) (.t 73) (.c (.bool false)), none⟩,
      ⟨some 75, .cp (.t 74), none⟩,
      ⟨some 76, .call 22 [], some (75, true)⟩,
      ⟨some 77, .pick (.t 75) (.t 76) (.c (.bool false)), none⟩,
      ⟨some 4, .cp (.t 77), none⟩]) (
  .ret)))))))
def af4 : AFn := ⟨78, 0, [.t 4], a4⟩
theorem ak4 : chkF Try.prog 4 af4 = true := by kernel_rfl

-- f22 fingerpost/fingerpostlaw07.awake  boxes 3 notes []
def a22 : AC := .seq (.reg [⟨some 0, .cp (.c (.bool false)), none⟩]) (
  .seq (.reg [⟨some 14, .bld [.int .i64 0, .int .i64 0, .int .u32 0, .int .i64 0] [(0, 1, .c (.int .i64 2)), (1, 1, .c (.int .i64 1)), (2, 1, .c (.int .u32 7)), (3, 1, .c (.int .i64 1))], none⟩,
      ⟨some 15, .call 92 [.c (.int .i64 3), .c (.int .i64 0)], none⟩,
      ⟨some 16, .bld [.int .i64 0, .int .i64 0, .int .u32 0, .int .i64 0] [(0, 1, .c (.int .i64 4))], none⟩,
      ⟨some 17, .bsB 2 4 [.t 14, .t 15, .t 16], none⟩,
      ⟨some 1, .cp (.t 17), none⟩]) (
  .seq (.reg [⟨some 18, .cp (.t 1), none⟩,
      ⟨some 19, .ia 4 none (.t 18) (.c (.int .i64 2)), none⟩,
      ⟨some 20, .fa 3 (.t 19), none⟩,
      ⟨none, .sto 1 (.t 20) (.c (.int .i64 (-1))), none⟩]) (
  .frz 2 1 (.seq (.reg [⟨some 22, .cp (.t 1), none⟩,
      ⟨some 23, .call 23 [.t 22], none⟩,
      ⟨some 21, .tk 23, none⟩,
      ⟨some 24, .ext (.t 21) 0, none⟩,
      ⟨some 25, .ext (.t 21) 1, none⟩,
      ⟨some 2, .cp (.t 24), none⟩,
      ⟨some 3, .cp (.t 25), none⟩]) (
  .seq (.reg [⟨some 27, .cp (.t 2), none⟩,
      ⟨some 28, .call 24 [.t 27], none⟩,
      ⟨some 26, .tk 28, none⟩,
      ⟨some 29, .extt 26 0, none⟩,
      ⟨some 30, .ext (.t 26) 1, none⟩,
      ⟨some 4, .tk 29, none⟩,
      ⟨some 5, .cp (.t 30), none⟩]) (
  .seq (.reg [⟨some 32, .bld [.int .i64 0, .int .i64 0, .int .u32 0, .int .i64 0] [(0, 1, .c (.int .i64 2)), (2, 1, .c (.int .u32 7)), (3, 1, .c (.int .i64 2))], none⟩,
      ⟨some 33, .call 93 [.t 32], none⟩,
      ⟨some 31, .tk 33, none⟩,
      ⟨some 34, .ext (.t 31) 0, none⟩,
      ⟨some 35, .ext (.t 31) 1, none⟩,
      ⟨some 6, .cp (.t 34), none⟩,
      ⟨some 7, .cp (.t 35), none⟩]) (
  .seq (.reg [⟨some 37, .call 94 [.c (.str [115, 104, 111, 114, 116])], none⟩,
      ⟨some 36, .tk 37, none⟩,
      ⟨some 38, .ext (.t 36) 0, none⟩,
      ⟨some 39, .ext (.t 36) 1, none⟩,
      ⟨some 40, .ext (.t 36) 2, none⟩,
      ⟨some 8, .alloc 0 4 [.int .i64 0, .int .i64 0, .int .u32 0, .int .i64 0], none⟩,
      ⟨none, .st 4 (.t 8) (.t 38), none⟩,
      ⟨some 9, .cp (.t 39), none⟩,
      ⟨some 10, .cp (.t 40), none⟩]) (
  .seq (.reg [⟨some 42, .call 94 [.c (.str [35, 0, 0, 0, 7, 1])], none⟩,
      ⟨some 41, .tk 42, none⟩,
      ⟨some 43, .ext (.t 41) 0, none⟩,
      ⟨some 44, .ext (.t 41) 1, none⟩,
      ⟨some 45, .ext (.t 41) 2, none⟩,
      ⟨some 11, .alloc 1 4 [.int .i64 0, .int .i64 0, .int .u32 0, .int .i64 0], none⟩,
      ⟨none, .st 4 (.t 11) (.t 43), none⟩,
      ⟨some 12, .cp (.t 44), none⟩,
      ⟨some 13, .cp (.t 45), none⟩]) (
  .seq (.seq (.reg [⟨some 46, .cp (.t 4), none⟩,
      ⟨some 47, .len (.t 46), none⟩,
      ⟨some 48, .bin .neq (.t 47) (.c (.int .i64 3)), none⟩]) (
  .cond (.t 48) (
    .seq (.reg [⟨some 0, .cp (.c (.bool false)), none⟩]) (
    .ret)) (
    .skip))) (
  .seq (.drw [⟨some 49, .cp (.t 3), none⟩,
      ⟨some 50, .bin .eql (.t 49) (.c (.int .i64 0)), none⟩,
      ⟨some 51, .cp (.t 50), none⟩,
      ⟨some 52, .cp (.t 2), some (51, true)⟩,
      ⟨some 53, .subS (.t 52) none (some (.c (.int .i64 6))), some (51, true)⟩,
      ⟨some 54, .bin .eql (.t 53) (.c (.str [33, 0, 0, 0, 7, 1])), some (51, true)⟩,
      ⟨some 55, .pick (.t 51) (.t 54) (.c (.bool false)), none⟩,
      ⟨some 56, .cp (.t 55), none⟩,
      ⟨some 57, .cp (.t 2), some (56, true)⟩,
      ⟨some 58, .subS (.t 57) (some (.c (.int .i64 6))) (some (.c (.int .i64 12))), some (56, true)⟩,
      ⟨some 59, .bin .eql (.t 58) (.c (.str [48, 255, 255, 255, 255, 255])), some (56, true)⟩,
      ⟨some 60, .pick (.t 56) (.t 59) (.c (.bool false)), none⟩,
      ⟨some 61, .cp (.t 60), none⟩,
      ⟨some 62, .cp (.t 5), some (61, true)⟩,
      ⟨some 63, .bin .eql (.t 62) (.c (.int .i64 0)), some (61, true)⟩,
      ⟨some 64, .pick (.t 61) (.t 63) (.c (.bool false)), none⟩,
      ⟨some 65, .cp (.t 64), none⟩,
      ⟨some 66, .cp (.t 4), some (65, true)⟩,
      ⟨some 67, .iaE 4 (.t 66) (.c (.int .i64 0)), some (65, true)⟩,
      ⟨some 68, .ld (some 4) (.t 67), some (65, true)⟩,
      ⟨some 69, .cp (.t 1), some (65, true)⟩,
      ⟨some 70, .iaE 4 (.t 69) (.c (.int .i64 0)), some (65, true)⟩,
      ⟨some 71, .ld (some 4) (.t 70), some (65, true)⟩,
      ⟨some 72, .eqA false [.i, .i, .i, .i] (.t 68) (.t 71), some (65, true)⟩,
      ⟨some 73, .pick (.t 65) (.t 72) (.c (.bool false)), none⟩,
      ⟨some 74, .cp (.t 73), none⟩,
      ⟨some 75, .cp (.t 4), some (74, true)⟩,
      ⟨some 76, .iaE 4 (.t 75) (.c (.int .i64 1)), some (74, true)⟩,
      ⟨some 77, .ld (some 4) (.t 76), some (74, true)⟩,
      ⟨some 78, .cp (.t 1), some (74, true)⟩,
      ⟨some 79, .iaE 4 (.t 78) (.c (.int .i64 1)), some (74, true)⟩,
      ⟨some 80, .ld (some 4) (.t 79), some (74, true)⟩,
      ⟨some 81, .eqA false [.i, .i, .i, .i] (.t 77) (.t 80), some (74, true)⟩,
      ⟨some 82, .pick (.t 74) (.t 81) (.c (.bool false)), none⟩,
      ⟨some 83, .cp (.t 82), none⟩,
      ⟨some 84, .cp (.t 4), some (83, true)⟩,
      ⟨some 85, .iaE 4 (.t 84) (.c (.int .i64 2)), some (83, true)⟩,
      ⟨some 86, .ld (some 4) (.t 85), some (83, true)⟩,
      ⟨some 87, .cp (.t 1), some (83, true)⟩,
      ⟨some 88, .iaE 4 (.t 87) (.c (.int .i64 2)), some (83, true)⟩,
      ⟨some 89, .ld (some 4) (.t 88), some (83, true)⟩,
      ⟨some 90, .eqA false [.i, .i, .i, .i] (.t 86) (.t 89), some (83, true)⟩,
      ⟨some 91, .pick (.t 83) (.t 90) (.c (.bool false)), none⟩,
      ⟨some 92, .cp (.t 91), none⟩,
      ⟨some 93, .cp (.t 7), some (92, true)⟩,
      ⟨some 94, .bin .eql (.t 93) (.c (.int .i64 1)), some (92, true)⟩,
      ⟨some 95, .pick (.t 92) (.t 94) (.c (.bool false)), none⟩,
      ⟨some 96, .cp (.t 95), none⟩,
      ⟨some 97, .cp (.t 10), some (96, true)⟩,
      ⟨some 98, .bin .eql (.t 97) (.c (.int .i64 2)), some (96, true)⟩,
      ⟨some 99, .pick (.t 96) (.t 98) (.c (.bool false)), none⟩,
      ⟨some 100, .cp (.t 99), none⟩,
      ⟨some 101, .cp (.t 13), some (100, true)⟩,
      ⟨some 102, .bin .eql (.t 101) (.c (.int .i64 3)), some (100, true)⟩,
      ⟨some 103, .pick (.t 100) (.t 102) (.c (.bool false)), none⟩,
      ⟨some 104, .cp (.t 103), none⟩,
      ⟨some 105, .cp (.t 1), some (104, true)⟩,
      ⟨some 106, .iaE 4 (.t 105) (.c (.int .i64 0)), some (104, true)⟩,
      ⟨some 107, .ld (some 4) (.t 106), some (104, true)⟩,
      ⟨some 108, .call 95 [.t 107], some (104, true)⟩,
      ⟨some 109, .pick (.t 104) (.t 108) (.c (.bool false)), none⟩,
      ⟨some 110, .cp (.t 109), none⟩,
      ⟨some 111, .bld [.int .i64 0, .int .i64 0, .int .u32 0, .int .i64 0] [(0, 1, .c (.int .i64 2)), (2, 1, .c (.int .u32 7)), (3, 1, .c (.int .i64 (-1)))], some (110, true)⟩,
      ⟨some 112, .call 95 [.t 111], some (110, true)⟩,
      ⟨some 113, .un .not (.t 112), some (110, true)⟩,
      ⟨some 114, .pick (.t 110) (.t 113) (.c (.bool false)), none⟩,
      ⟨some 0, .cp (.t 114), none⟩] []) (
  .ret)))))))))))
def af22 : AFn := ⟨115, 3, [.t 0], a22⟩
theorem ak22 : chkF Try.prog 22 af22 = true := by kernel_rfl

-- f92 fingerpost/item.Far  boxes 1 notes []
def a92 : AC := .seq (.reg [⟨some 4, .alloc 0 4 [.int .i64 0, .int .i64 0, .int .u32 0, .int .i64 0], none⟩]) (
  .seq (.reg [⟨some 5, .cp (.t 0), none⟩,
      ⟨some 6, .cp (.t 1), none⟩,
      ⟨some 7, .bld [.int .i64 0, .int .i64 0, .int .u32 0, .int .i64 0] [(0, 1, .t 5), (1, 1, .t 6), (2, 1, .c (.int .u32 4294967295)), (3, 1, .c (.int .i64 (-1)))], none⟩,
      ⟨none, .st 4 (.t 4) (.t 7), none⟩]) (
  .ret))
def af92 : AFn := ⟨8, 1, [.c 4 (some 4)], a92⟩
theorem ak92 : chkF Try.prog 92 af92 = true := by kernel_rfl

end Go.Proofs.Ytkcdeefnkbbacaa

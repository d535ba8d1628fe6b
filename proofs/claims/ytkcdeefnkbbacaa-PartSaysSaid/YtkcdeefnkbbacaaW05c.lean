/- The functions as data, and that they are the program's. -/
import Derived.Test.YtkcdeefnkbbacaaAwN
set_option maxRecDepth 100000
namespace Go.Proofs.Ytkcdeefnkbbacaa
open Go.RowKit
-- f80 fingerpost/fingerpostref01.Num  boxes 0 notes []
def a80_l0 : AC := .seq (.seq (.reg [⟨some 11, .cp (.t 6), none⟩,
      ⟨some 12, .bin .geq (.t 11) (.c (.int .i64 0)), none⟩]) (
  .cond (.t 12) (
    .skip) (
    .exit 0))) (
  .seq (.block 1 (
    .reg [⟨some 15, .cp (.t 5), none⟩,
        ⟨some 16, .cp (.t 0), none⟩,
        ⟨some 17, .cp (.t 6), none⟩,
        ⟨some 18, .bin .mul (.c (.int .i64 8)) (.t 17), none⟩,
        ⟨some 19, .cv (.int .u64) (.t 18), none⟩,
        ⟨some 20, .bin .shr (.t 16) (.t 19), none⟩,
        ⟨some 21, .cv (.int .u8) (.t 20), none⟩,
        ⟨some 22, .bs 1 [.t 21], none⟩,
        ⟨some 23, .cv .str (.t 22), none⟩,
        ⟨some 24, .bin .add (.t 15) (.t 23), none⟩,
        ⟨some 5, .cp (.t 24), none⟩])) (
  .reg [⟨some 13, .cp (.t 6), none⟩,
      ⟨some 14, .bin .sub (.t 13) (.c (.int .i64 1)), none⟩,
      ⟨some 6, .cp (.t 14), none⟩]))
def a80 : AC := .seq (.reg [⟨some 4, .cp (.c (.str [])), none⟩]) (
  .seq (.reg [⟨some 5, .cp (.c (.str [])), none⟩]) (
  .seq (.seq (.reg [⟨some 7, .cp (.t 1), none⟩,
      ⟨some 8, .mm false [.t 7, .c (.int .i64 8)], none⟩,
      ⟨some 9, .mm true [.c (.int .i64 0), .t 8], none⟩,
      ⟨some 10, .bin .sub (.t 9) (.c (.int .i64 1)), none⟩,
      ⟨some 6, .cp (.t 10), none⟩]) (
  .block 0 (
    .loop [false, false, false, false, false, false, false, false, false, false, false, true, true, true, true, true, true, true, true, true, true, true, true, true, true] [] a80_l0))) (
  .seq (.reg [⟨some 25, .cp (.t 5), none⟩,
      ⟨some 4, .cp (.t 25), none⟩]) (
  .ret))))
def af80 : AFn := ⟨26, 0, [.t 4], a80⟩
theorem ak80 : chkF Try.prog 80 af80 = true := by kernel_rfl

-- f81 fingerpost/fingerpostref05.Bytes  boxes 1 notes []
def a81 : AC := .seq (.reg [⟨some 1, .box 0 4 (.t 0), none⟩,
      ⟨some 2, .cp (.c (.str [])), none⟩]) (
  .seq (.drw [⟨some 3, .fa 0 (.t 1), none⟩,
      ⟨some 4, .fa 0 (.t 3), none⟩,
      ⟨some 5, .ld none (.t 4), none⟩,
      ⟨some 6, .cv (.int .u64) (.t 5), none⟩,
      ⟨some 7, .call 80 [.t 6, .c (.int .i64 4)], none⟩,
      ⟨some 8, .fa 0 (.t 1), none⟩,
      ⟨some 9, .fa 1 (.t 8), none⟩,
      ⟨some 10, .ld none (.t 9), none⟩,
      ⟨some 11, .cv (.int .u64) (.t 10), none⟩,
      ⟨some 12, .call 80 [.t 11, .c (.int .i64 4)], none⟩,
      ⟨some 13, .bin .add (.t 7) (.t 12), none⟩,
      ⟨some 14, .fa 2 (.t 1), none⟩,
      ⟨some 15, .fa 0 (.t 14), none⟩,
      ⟨some 16, .ld none (.t 15), none⟩,
      ⟨some 17, .cv (.int .u64) (.t 16), none⟩,
      ⟨some 18, .call 80 [.t 17, .c (.int .i64 4)], none⟩,
      ⟨some 19, .bin .add (.t 13) (.t 18), none⟩,
      ⟨some 20, .fa 2 (.t 1), none⟩,
      ⟨some 21, .fa 1 (.t 20), none⟩,
      ⟨some 22, .ld none (.t 21), none⟩,
      ⟨some 23, .cv (.int .u64) (.t 22), none⟩,
      ⟨some 24, .call 80 [.t 23, .c (.int .i64 4)], none⟩,
      ⟨some 25, .bin .add (.t 19) (.t 24), none⟩,
      ⟨some 2, .cp (.t 25), none⟩] []) (
  .ret))
def af81 : AFn := ⟨26, 1, [.t 2], a81⟩
theorem ak81 : chkF Try.prog 81 af81 = true := by kernel_rfl

-- f85 fingerpost/fingerpostref01.Take  boxes 0 notes []
def a85_l0 : AC := .seq (.reg [⟨some 21, .bin .lss (.t 20) (.t 19), none⟩]) (
  .seq (.cond (.t 21) (
    .skip) (
    .exit 0)) (
  .seq (.block 1 (
    .seq (.reg [⟨some 22, .cp (.t 20), none⟩,
        ⟨some 8, .cp (.t 22), none⟩]) (
    .reg [⟨some 23, .cp (.t 7), none⟩,
        ⟨some 24, .bin .mul (.t 23) (.c (.int .u64 256)), none⟩,
        ⟨some 25, .cp (.t 0), none⟩,
        ⟨some 26, .cp (.t 8), none⟩,
        ⟨some 27, .ixS (.t 25) (.t 26), none⟩,
        ⟨some 28, .cv (.int .u64) (.t 27), none⟩,
        ⟨some 29, .bin .add (.t 24) (.t 28), none⟩,
        ⟨some 7, .cp (.t 29), none⟩]))) (
  .reg [⟨some 30, .bin .add (.t 20) (.c (.int .i64 1)), none⟩,
      ⟨some 20, .cp (.t 30), none⟩])))
def a85 : AC := .seq (.reg [⟨some 4, .cp (.c (.int .u64 0)), none⟩,
      ⟨some 5, .cp (.c (.str [])), none⟩,
      ⟨some 6, .cp (.c (.int .i64 0)), none⟩]) (
  .seq (.seq (.reg [⟨some 9, .cp (.t 1), none⟩,
      ⟨some 10, .bin .lss (.t 9) (.c (.int .i64 0)), none⟩,
      ⟨some 11, .cp (.t 10), none⟩,
      ⟨some 12, .cp (.t 1), some (11, false)⟩,
      ⟨some 13, .bin .gtr (.t 12) (.c (.int .i64 8)), some (11, false)⟩,
      ⟨some 14, .pick (.t 11) (.c (.bool true)) (.t 13), none⟩]) (
  .cond (.t 14) (
    .seq (.reg [⟨some 4, .cp (.c (.int .u64 0)), none⟩,
        ⟨some 5, .cp (.c (.str [])), none⟩,
        ⟨some 6, .cp (.c (.int .i64 1)), none⟩]) (
    .ret)) (
    .skip))) (
  .seq (.seq (.reg [⟨some 15, .cp (.t 0), none⟩,
      ⟨some 16, .lenS (.t 15), none⟩,
      ⟨some 17, .cp (.t 1), none⟩,
      ⟨some 18, .bin .lss (.t 16) (.t 17), none⟩]) (
  .cond (.t 18) (
    .seq (.reg [⟨some 4, .cp (.c (.int .u64 0)), none⟩,
        ⟨some 5, .cp (.c (.str [])), none⟩,
        ⟨some 6, .cp (.c (.int .i64 2)), none⟩]) (
    .ret)) (
    .skip))) (
  .seq (.reg [⟨some 7, .cp (.c (.int .u64 0)), none⟩]) (
  .seq (.seq (.reg [⟨some 19, .cp (.t 1), none⟩,
      ⟨some 20, .cp (.c (.int .i64 0)), none⟩]) (
  .block 0 (
    .loop [false, false, false, false, false, false, false, false, true, false, false, false, false, false, false, false, false, false, false, false, false, true, true, true, true, true, true, true, true, true, true] [] a85_l0))) (
  .seq (.drw [⟨some 31, .cp (.t 7), none⟩,
      ⟨some 32, .cp (.t 0), none⟩,
      ⟨some 33, .cp (.t 1), none⟩,
      ⟨some 34, .subS (.t 32) (some (.t 33)) none, none⟩,
      ⟨some 4, .cp (.t 31), none⟩,
      ⟨some 5, .cp (.t 34), none⟩,
      ⟨some 6, .cp (.c (.int .i64 0)), none⟩] []) (
  .ret))))))
def af85 : AFn := ⟨35, 0, [.t 4, .t 5, .t 6], a85⟩
theorem ak85 : chkF Try.prog 85 af85 = true := by kernel_rfl

-- f86 fingerpost/fingerpostref05.Read  boxes 2 notes []
def a86_l0 : AC := .seq (.reg [⟨some 12, .bin .lss (.t 11) (.c (.int .i64 4)), none⟩]) (
  .seq (.cond (.t 12) (
    .skip) (
    .exit 0)) (
  .seq (.block 1 (
    .seq (.reg [⟨some 13, .cp (.t 11), none⟩,
        ⟨some 6, .cp (.t 13), none⟩]) (
    .reg [⟨some 15, .cp (.t 6), none⟩,
        ⟨some 16, .cp (.t 0), none⟩,
        ⟨some 17, .call 85 [.t 16, .c (.int .i64 4)], none⟩,
        ⟨some 14, .tk 17, none⟩,
        ⟨some 18, .ext (.t 14) 0, none⟩,
        ⟨some 19, .ext (.t 14) 1, none⟩,
        ⟨some 20, .ext (.t 14) 2, none⟩,
        ⟨some 21, .ia 1 (some 4) (.t 5) (.t 15), none⟩,
        ⟨none, .st 1 (.t 21) (.t 18), none⟩,
        ⟨some 0, .cp (.t 19), none⟩]))) (
  .reg [⟨some 22, .bin .add (.t 11) (.c (.int .i64 1)), none⟩,
      ⟨some 11, .cp (.t 22), none⟩])))
def a86 : AC := .seq (.reg [⟨some 2, .alloc 0 4 [.int .u32 0, .int .u32 0, .int .u32 0, .int .u32 0], none⟩,
      ⟨some 3, .cp (.c (.str [])), none⟩,
      ⟨some 4, .cp (.c (.int .i64 0)), none⟩]) (
  .seq (.seq (.reg [⟨some 7, .cp (.t 0), none⟩,
      ⟨some 8, .lenS (.t 7), none⟩,
      ⟨some 9, .bin .lss (.t 8) (.c (.int .i64 16)), none⟩]) (
  .cond (.t 9) (
    .seq (.reg [⟨some 10, .bld [.int .u32 0, .int .u32 0, .int .u32 0, .int .u32 0] [], none⟩,
        ⟨none, .st 4 (.t 2) (.t 10), none⟩,
        ⟨some 3, .cp (.c (.str [])), none⟩,
        ⟨some 4, .cp (.c (.int .i64 2)), none⟩]) (
    .ret)) (
    .skip))) (
  .seq (.reg [⟨some 5, .alloc 1 4 [.int .u64 0, .int .u64 0, .int .u64 0, .int .u64 0], none⟩]) (
  .seq (.seq (.reg [⟨some 11, .cp (.c (.int .i64 0)), none⟩]) (
  .block 0 (
    .loop [false, false, false, false, false, false, true, false, false, false, false, false, true, true, true, true, true, true, true, true, true, true, true] [] a86_l0))) (
  .seq (.reg [⟨some 23, .ia 1 (some 4) (.t 5) (.c (.int .i64 0)), none⟩,
      ⟨some 24, .ld none (.t 23), none⟩,
      ⟨some 25, .cv (.int .u32) (.t 24), none⟩,
      ⟨some 26, .ia 1 (some 4) (.t 5) (.c (.int .i64 1)), none⟩,
      ⟨some 27, .ld none (.t 26), none⟩,
      ⟨some 28, .cv (.int .u32) (.t 27), none⟩,
      ⟨some 29, .bld [.int .u32 0, .int .u32 0] [(0, 1, .t 25), (1, 1, .t 28)], none⟩,
      ⟨some 30, .ia 1 (some 4) (.t 5) (.c (.int .i64 2)), none⟩,
      ⟨some 31, .ld none (.t 30), none⟩,
      ⟨some 32, .cv (.int .u32) (.t 31), none⟩,
      ⟨some 33, .ia 1 (some 4) (.t 5) (.c (.int .i64 3)), none⟩,
      ⟨some 34, .ld none (.t 33), none⟩,
      ⟨some 35, .cv (.int .u32) (.t 34), none⟩,
      ⟨some 36, .bld [.int .u32 0, .int .u32 0] [(0, 1, .t 32), (1, 1, .t 35)], none⟩,
      ⟨some 37, .bld [.int .u32 0, .int .u32 0, .int .u32 0, .int .u32 0] [(0, 2, .t 29), (2, 2, .t 36)], none⟩,
      ⟨some 38, .cp (.t 0), none⟩,
      ⟨none, .st 4 (.t 2) (.t 37), none⟩,
      ⟨some 3, .cp (.t 38), none⟩,
      ⟨some 4, .cp (.c (.int .i64 0)), none⟩]) (
  .ret)))))
def af86 : AFn := ⟨39, 2, [.c 2 (some 4), .t 3, .t 4], a86⟩
theorem ak86 : chkF Try.prog 86 af86 = true := by kernel_rfl

-- f87 fingerpost/fingerpostref01.Rest  boxes 0 notes []
def a87 : AC := .seq (.reg [⟨some 2, .cp (.c (.int .i64 0)), none⟩]) (
  .seq (.seq (.reg [⟨some 3, .cp (.t 0), none⟩,
      ⟨some 4, .bin .neq (.t 3) (.c (.str [])), none⟩]) (
  .cond (.t 4) (
    .seq (.reg [⟨some 2, .cp (.c (.int .i64 3)), none⟩]) (
    .ret)) (
    .skip))) (
  .seq (.reg [⟨some 2, .cp (.c (.int .i64 0)), none⟩]) (
  .ret)))
def af87 : AFn := ⟨5, 0, [.t 2], a87⟩
theorem ak87 : chkF Try.prog 87 af87 = true := by kernel_rfl

-- f88 fingerpost/nodes.Right  boxes 0 notes []
def a88 : AC := .seq (.reg [⟨some 2, .cp (.c (.bool false)), none⟩]) (
  .seq (.reg [⟨some 3, .cp (.t 0), none⟩,
      ⟨some 4, .bin .geq (.t 3) (.c (.int .i64 0)), none⟩,
      ⟨some 5, .cp (.t 4), none⟩,
      ⟨some 6, .cp (.t 0), some (5, true)⟩,
      ⟨some 7, .bin .lss (.t 6) (.c (.int .i64 16)), some (5, true)⟩,
      ⟨some 8, .pick (.t 5) (.t 7) (.c (.bool false)), none⟩,
      ⟨some 2, .cp (.t 8), none⟩]) (
  .ret))
def af88 : AFn := ⟨9, 0, [.t 2], a88⟩
theorem ak88 : chkF Try.prog 88 af88 = true := by kernel_rfl

-- f90 fingerpost/fingerpostref03.Right  boxes 0 notes []
def a90 : AC := .seq (.reg [⟨some 2, .cp (.c (.bool false)), none⟩]) (
  .seq (.reg [⟨some 3, .cp (.t 0), none⟩,
      ⟨some 4, .bin .geq (.t 3) (.c (.int .i64 0)), none⟩,
      ⟨some 5, .cp (.t 4), none⟩,
      ⟨some 6, .cp (.t 0), some (5, true)⟩,
      ⟨some 7, .bin .lss (.t 6) (.c (.int .i64 16)), some (5, true)⟩,
      ⟨some 8, .pick (.t 5) (.t 7) (.c (.bool false)), none⟩,
      ⟨some 2, .cp (.t 8), none⟩]) (
  .ret))
def af90 : AFn := ⟨9, 0, [.t 2], a90⟩
theorem ak90 : chkF Try.prog 90 af90 = true := by kernel_rfl

-- f89 fingerpost/epoch.None  boxes 1 notes []
def a89 : AC := .seq (.reg [⟨some 1, .box 0 2 (.t 0), none⟩,
      ⟨some 2, .cp (.c (.bool false)), none⟩]) (
  .seq (.reg [⟨some 3, .ld (some 2) (.t 1), none⟩,
      ⟨some 4, .bld [.int .u32 0, .int .u32 0] [], none⟩,
      ⟨some 5, .eqA false [.i, .i] (.t 3) (.t 4), none⟩,
      ⟨some 2, .cp (.t 5), none⟩]) (
  .ret))
def af89 : AFn := ⟨6, 1, [.t 2], a89⟩
theorem ak89 : chkF Try.prog 89 af89 = true := by kernel_rfl

-- f91 fingerpost/fingerpostref05.None  boxes 1 notes []
def a91 : AC := .seq (.reg [⟨some 1, .box 0 2 (.t 0), none⟩,
      ⟨some 2, .cp (.c (.bool false)), none⟩]) (
  .seq (.reg [⟨some 3, .ld (some 2) (.t 1), none⟩,
      ⟨some 4, .bld [.int .u32 0, .int .u32 0] [], none⟩,
      ⟨some 5, .eqA false [.i, .i] (.t 3) (.t 4), none⟩,
      ⟨some 2, .cp (.t 5), none⟩]) (
  .ret))
def af91 : AFn := ⟨6, 1, [.t 2], a91⟩
theorem ak91 : chkF Try.prog 91 af91 = true := by kernel_rfl

end Go.Proofs.Ytkcdeefnkbbacaa

/- The functions as data, and that they are the program's. -/
import Derived.Test.YtildhamfnfifjaaAwL
set_option maxRecDepth 100000
namespace Go.Proofs.Ytildhamfnfifjaa
open Go.RowKit
-- f19 fingerpost/hello.Right  boxes 1 notes []
def a19 : AC := .seq (.reg [⟨some 1, .box 0 5 (.t 0), none⟩,
      ⟨some 2, .cp (.c (.bool false)), none⟩]) (
  .seq (.reg [⟨some 3, .fa 0 (.t 1), none⟩,
      ⟨some 4, .ld none (.t 3), none⟩,
      ⟨some 5, .call 72 [.t 4], none⟩,
      ⟨some 6, .cp (.t 5), none⟩,
      ⟨some 7, .fa 1 (.t 1), some (6, true)⟩,
      ⟨some 8, .fa 0 (.t 7), some (6, true)⟩,
      ⟨some 9, .ld (some 2) (.t 8), some (6, true)⟩,
      ⟨some 10, .call 25 [.t 9], some (6, true)⟩,
      ⟨some 11, .un .not (.t 10), some (6, true)⟩,
      ⟨some 12, .pick (.t 6) (.t 11) (.c (.bool false)), none⟩,
      ⟨some 2, .cp (.t 12), none⟩]) (
  .ret))
def af19 : AFn := ⟨13, 1, [.t 2], a19⟩
theorem ak19 : chkF Try.prog 19 af19 = true := by kernel_rfl

-- f20 fingerpost/fingerpostref06.Right  boxes 1 notes []
def a20 : AC := .seq (.reg [⟨some 1, .box 0 5 (.t 0), none⟩,
      ⟨some 2, .cp (.c (.bool false)), none⟩]) (
  .seq (.reg [⟨some 3, .fa 0 (.t 1), none⟩,
      ⟨some 4, .ld none (.t 3), none⟩,
      ⟨some 5, .call 73 [.t 4], none⟩,
      ⟨some 6, .cp (.t 5), none⟩,
      ⟨some 7, .fa 1 (.t 1), some (6, true)⟩,
      ⟨some 8, .fa 0 (.t 7), some (6, true)⟩,
      ⟨some 9, .ld (some 2) (.t 8), some (6, true)⟩,
      ⟨some 10, .call 74 [.t 9], some (6, true)⟩,
      ⟨some 11, .un .not (.t 10), some (6, true)⟩,
      ⟨some 12, .pick (.t 6) (.t 11) (.c (.bool false)), none⟩,
      ⟨some 2, .cp (.t 12), none⟩]) (
  .ret))
def af20 : AFn := ⟨13, 1, [.t 2], a20⟩
theorem ak20 : chkF Try.prog 20 af20 = true := by kernel_rfl

-- f21 fingerpost/hello.Knows  boxes 2 notes []
def a21 : AC := .seq (.reg [⟨some 2, .box 0 5 (.t 0), none⟩,
      ⟨some 3, .box 1 2 (.t 1), none⟩,
      ⟨some 4, .cp (.c (.int .i64 0)), none⟩]) (
  .seq (.block 0 (
    .seq (.reg [⟨some 6, .fa 1 (.t 2), none⟩,
        ⟨some 7, .fa 2 (.t 6), none⟩,
        ⟨some 8, .ld (some 2) (.t 7), none⟩,
        ⟨some 9, .call 25 [.t 8], none⟩,
        ⟨some 5, .cp (.t 9), none⟩]) (
    .cond (.t 5) (
      .seq (.reg [⟨some 4, .cp (.c (.int .i64 0)), none⟩]) (
      .ret)) (
      .seq (.reg [⟨some 11, .fa 1 (.t 2), none⟩,
          ⟨some 12, .fa 2 (.t 11), none⟩,
          ⟨some 13, .ld (some 2) (.t 12), none⟩,
          ⟨some 14, .ld (some 2) (.t 3), none⟩,
          ⟨some 15, .eqA false [.i, .i] (.t 13) (.t 14), none⟩,
          ⟨some 10, .cp (.t 15), none⟩]) (
      .cond (.t 10) (
        .seq (.reg [⟨some 4, .cp (.c (.int .i64 3)), none⟩]) (
        .ret)) (
        .seq (.reg [⟨some 17, .ld (some 2) (.t 3), none⟩,
            ⟨some 18, .fa 1 (.t 2), none⟩,
            ⟨some 19, .fa 2 (.t 18), none⟩,
            ⟨some 20, .ld (some 2) (.t 19), none⟩,
            ⟨some 21, .call 75 [.t 17, .t 20], none⟩,
            ⟨some 16, .cp (.t 21), none⟩]) (
        .cond (.t 16) (
          .seq (.reg [⟨some 4, .cp (.c (.int .i64 1)), none⟩]) (
          .ret)) (
          .skip)))))))) (
  .seq (.reg [⟨some 4, .cp (.c (.int .i64 2)), none⟩]) (
  .ret)))
def af21 : AFn := ⟨22, 2, [.t 4], a21⟩
theorem ak21 : chkF Try.prog 21 af21 = true := by kernel_rfl

-- f22 fingerpost/fingerpostref06.Knows  boxes 2 notes []
def a22 : AC := .seq (.reg [⟨some 2, .box 0 5 (.t 0), none⟩,
      ⟨some 3, .box 1 2 (.t 1), none⟩,
      ⟨some 4, .cp (.c (.int .i64 0)), none⟩]) (
  .seq (.block 0 (
    .seq (.reg [⟨some 6, .fa 1 (.t 2), none⟩,
        ⟨some 7, .fa 2 (.t 6), none⟩,
        ⟨some 8, .ld (some 2) (.t 7), none⟩,
        ⟨some 9, .call 74 [.t 8], none⟩,
        ⟨some 5, .cp (.t 9), none⟩]) (
    .cond (.t 5) (
      .seq (.reg [⟨some 4, .cp (.c (.int .i64 0)), none⟩]) (
      .ret)) (
      .seq (.reg [⟨some 11, .fa 1 (.t 2), none⟩,
          ⟨some 12, .fa 2 (.t 11), none⟩,
          ⟨some 13, .ld (some 2) (.t 12), none⟩,
          ⟨some 14, .ld (some 2) (.t 3), none⟩,
          ⟨some 15, .eqA false [.i, .i] (.t 13) (.t 14), none⟩,
          ⟨some 10, .cp (.t 15), none⟩]) (
      .cond (.t 10) (
        .seq (.reg [⟨some 4, .cp (.c (.int .i64 3)), none⟩]) (
        .ret)) (
        .seq (.reg [⟨some 17, .ld (some 2) (.t 3), none⟩,
            ⟨some 18, .fa 1 (.t 2), none⟩,
            ⟨some 19, .fa 2 (.t 18), none⟩,
            ⟨some 20, .ld (some 2) (.t 19), none⟩,
            ⟨some 21, .call 76 [.t 17, .t 20], none⟩,
            ⟨some 16, .cp (.t 21), none⟩]) (
        .cond (.t 16) (
          .seq (.reg [⟨some 4, .cp (.c (.int .i64 1)), none⟩]) (
          .ret)) (
          .skip)))))))) (
  .seq (.reg [⟨some 4, .cp (.c (.int .i64 2)), none⟩]) (
  .ret)))
def af22 : AFn := ⟨22, 2, [.t 4], a22⟩
theorem ak22 : chkF Try.prog 22 af22 = true := by kernel_rfl

-- f23 fingerpost/hello.Answers  boxes 2 notes []
def a23 : AC := .seq (.reg [⟨some 2, .box 0 5 (.t 0), none⟩,
      ⟨some 3, .box 1 5 (.t 1), none⟩,
      ⟨some 4, .cp (.c (.bool false)), none⟩]) (
  .seq (.seq (.reg [⟨some 5, .ld (some 5) (.t 2), none⟩,
      ⟨some 6, .call 19 [.t 5], none⟩,
      ⟨some 7, .un .not (.t 6), none⟩,
      ⟨some 8, .cp (.t 7), none⟩,
      ⟨some 9, .ld (some 5) (.t 3), some (8, false)⟩,
      ⟨some 10, .call 19 [.t 9], some (8, false)⟩,
      ⟨some 11, .un .not (.t 10), some (8, false)⟩,
      ⟨some 12, .pick (.t 8) (.c (.bool true)) (.t 11), none⟩,
      ⟨some 13, .cp (.t 12), none⟩,
      ⟨some 14, .fa 0 (.t 2), some (13, false)⟩,
      ⟨some 15, .ld none (.t 14), some (13, false)⟩,
      ⟨some 16, .fa 0 (.t 3), some (13, false)⟩,
      ⟨some 17, .ld none (.t 16), some (13, false)⟩,
      ⟨some 18, .bin .eql (.t 15) (.t 17), some (13, false)⟩,
      ⟨some 19, .pick (.t 13) (.c (.bool true)) (.t 18), none⟩,
      ⟨some 20, .cp (.t 19), none⟩,
      ⟨some 21, .fa 1 (.t 3), some (20, false)⟩,
      ⟨some 22, .fa 2 (.t 21), some (20, false)⟩,
      ⟨some 23, .ld (some 2) (.t 22), some (20, false)⟩,
      ⟨some 24, .fa 1 (.t 2), some (20, false)⟩,
      ⟨some 25, .fa 0 (.t 24), some (20, false)⟩,
      ⟨some 26, .ld (some 2) (.t 25), some (20, false)⟩,
      ⟨some 27, .eqA true [.i, .i] (.t 23) (.t 26), some (20, false)⟩,
      ⟨some 28, .pick (.t 20) (.c (.bool true)) (.t 27), none⟩]) (
  .cond (.t 28) (
    .seq (.reg [⟨some 4, .cp (.c (.bool false)), none⟩]) (
    .ret)) (
    .skip))) (
  .seq (.reg [⟨some 29, .fa 1 (.t 2), none⟩,
      ⟨some 30, .fa 2 (.t 29), none⟩,
      ⟨some 31, .ld (some 2) (.t 30), none⟩,
      ⟨some 32, .call 25 [.t 31], none⟩,
      ⟨some 33, .cp (.t 32), none⟩,
      ⟨some 34, .fa 1 (.t 2), some (33, false)⟩,
      ⟨some 35, .fa 2 (.t 34), some (33, false)⟩,
      ⟨some 36, .ld (some 2) (.t 35), some (33, false)⟩,
      ⟨some 37, .fa 1 (.t 3), some (33, false)⟩,
      ⟨some 38, .fa 0 (.t 37), some (33, false)⟩,
      ⟨some 39, .ld (some 2) (.t 38), some (33, false)⟩,
      ⟨some 40, .eqA false [.i, .i] (.t 36) (.t 39), some (33, false)⟩,
      ⟨some 41, .pick (.t 33) (.c (.bool true)) (.t 40), none⟩,
      ⟨some 4, .cp (.t 41), none⟩]) (
  .ret)))
def af23 : AFn := ⟨42, 2, [.t 4], a23⟩
theorem ak23 : chkF Try.prog 23 af23 = true := by kernel_rfl

-- f24 fingerpost/fingerpostref06.Answers  boxes 2 notes []
def a24 : AC := .seq (.reg [⟨some 2, .box 0 5 (.t 0), none⟩,
      ⟨some 3, .box 1 5 (.t 1), none⟩,
      ⟨some 4, .cp (.c (.bool false)), none⟩]) (
  .seq (.reg [⟨some 5, .ld (some 5) (.t 2), none⟩,
      ⟨some 6, .call 20 [.t 5], none⟩,
      ⟨some 7, .cp (.t 6), none⟩,
      ⟨some 8, .ld (some 5) (.t 3), some (7, true)⟩,
      ⟨some 9, .call 20 [.t 8], some (7, true)⟩,
      ⟨some 10, .pick (.t 7) (.t 9) (.c (.bool false)), none⟩,
      ⟨some 11, .cp (.t 10), none⟩,
      ⟨some 12, .fa 0 (.t 2), some (11, true)⟩,
      ⟨some 13, .ld none (.t 12), some (11, true)⟩,
      ⟨some 14, .fa 0 (.t 3), some (11, true)⟩,
      ⟨some 15, .ld none (.t 14), some (11, true)⟩,
      ⟨some 16, .bin .neq (.t 13) (.t 15), some (11, true)⟩,
      ⟨some 17, .pick (.t 11) (.t 16) (.c (.bool false)), none⟩,
      ⟨some 18, .cp (.t 17), none⟩,
      ⟨some 19, .fa 1 (.t 3), some (18, true)⟩,
      ⟨some 20, .fa 2 (.t 19), some (18, true)⟩,
      ⟨some 21, .ld (some 2) (.t 20), some (18, true)⟩,
      ⟨some 22, .fa 1 (.t 2), some (18, true)⟩,
      ⟨some 23, .fa 0 (.t 22), some (18, true)⟩,
      ⟨some 24, .ld (some 2) (.t 23), some (18, true)⟩,
      ⟨some 25, .eqA false [.i, .i] (.t 21) (.t 24), some (18, true)⟩,
      ⟨some 26, .pick (.t 18) (.t 25) (.c (.bool false)), none⟩,
      ⟨some 27, .cp (.t 26), none⟩,
      ⟨some 28, .fa 1 (.t 2), some (27, true)⟩,
      ⟨some 29, .fa 2 (.t 28), some (27, true)⟩,
      ⟨some 30, .ld (some 2) (.t 29), some (27, true)⟩,
      ⟨some 31, .call 74 [.t 30], some (27, true)⟩,
      ⟨some 32, .cp (.t 31), some (27, true)⟩,
      ⟨some 33, .fa 1 (.t 2), some (32, false)⟩,
      ⟨some 34, .fa 2 (.t 33), some (32, false)⟩,
      ⟨some 35, .ld (some 2) (.t 34), some (32, false)⟩,
      ⟨some 36, .fa 1 (.t 3), some (32, false)⟩,
      ⟨some 37, .fa 0 (.t 36), some (32, false)⟩,
      ⟨some 38, .ld (some 2) (.t 37), some (32, false)⟩,
      ⟨some 39, .eqA false [.i, .i] (.t 35) (.t 38), some (32, false)⟩,
      ⟨some 40, .pick (.t 32) (.c (.bool true)) (.t 39), some (27, true)⟩,
      ⟨some 41, .pick (.t 27) (.t 40) (.c (.bool false)), none⟩,
      ⟨some 4, .cp (.t 41), none⟩]) (
  .ret))
def af24 : AFn := ⟨42, 2, [.t 4], a24⟩
theorem ak24 : chkF Try.prog 24 af24 = true := by kernel_rfl

-- f25 fingerpost/epoch.None  boxes 1 notes []
def a25 : AC := .seq (.reg [⟨some 1, .box 0 2 (.t 0), none⟩,
      ⟨some 2, .cp (.c (.bool false)), none⟩]) (
  .seq (.reg [⟨some 3, .ld (some 2) (.t 1), none⟩,
      ⟨some 4, .bld [.int .u32 0, .int .u32 0] [], none⟩,
      ⟨some 5, .eqA false [.i, .i] (.t 3) (.t 4), none⟩,
      ⟨some 2, .cp (.t 5), none⟩]) (
  .ret))
def af25 : AFn := ⟨6, 1, [.t 2], a25⟩
theorem ak25 : chkF Try.prog 25 af25 = true := by kernel_rfl

-- f72 fingerpost/nodes.Right  boxes 0 notes []
def a72 : AC := .seq (.reg [⟨some 2, .cp (.c (.bool false)), none⟩]) (
  .seq (.reg [⟨some 3, .cp (.t 0), none⟩,
      ⟨some 4, .bin .geq (.t 3) (.c (.int .i64 0)), none⟩,
      ⟨some 5, .cp (.t 4), none⟩,
      ⟨some 6, .cp (.t 0), some (5, true)⟩,
      ⟨some 7, .bin .lss (.t 6) (.c (.int .i64 16)), some (5, true)⟩,
      ⟨some 8, .pick (.t 5) (.t 7) (.c (.bool false)), none⟩,
      ⟨some 2, .cp (.t 8), none⟩]) (
  .ret))
def af72 : AFn := ⟨9, 0, [.t 2], a72⟩
theorem ak72 : chkF Try.prog 72 af72 = true := by kernel_rfl

-- f73 fingerpost/fingerpostref03.Right  boxes 0 notes []
def a73 : AC := .seq (.reg [⟨some 2, .cp (.c (.bool false)), none⟩]) (
  .seq (.reg [⟨some 3, .cp (.t 0), none⟩,
      ⟨some 4, .bin .geq (.t 3) (.c (.int .i64 0)), none⟩,
      ⟨some 5, .cp (.t 4), none⟩,
      ⟨some 6, .cp (.t 0), some (5, true)⟩,
      ⟨some 7, .bin .lss (.t 6) (.c (.int .i64 16)), some (5, true)⟩,
      ⟨some 8, .pick (.t 5) (.t 7) (.c (.bool false)), none⟩,
      ⟨some 2, .cp (.t 8), none⟩]) (
  .ret))
def af73 : AFn := ⟨9, 0, [.t 2], a73⟩
theorem ak73 : chkF Try.prog 73 af73 = true := by kernel_rfl

-- f74 fingerpost/fingerpostref05.None  boxes 1 notes []
def a74 : AC := .seq (.reg [⟨some 1, .box 0 2 (.t 0), none⟩,
      ⟨some 2, .cp (.c (.bool false)), none⟩]) (
  .seq (.reg [⟨some 3, .ld (some 2) (.t 1), none⟩,
      ⟨some 4, .bld [.int .u32 0, .int .u32 0] [], none⟩,
      ⟨some 5, .eqA false [.i, .i] (.t 3) (.t 4), none⟩,
      ⟨some 2, .cp (.t 5), none⟩]) (
  .ret))
def af74 : AFn := ⟨6, 1, [.t 2], a74⟩
theorem ak74 : chkF Try.prog 74 af74 = true := by kernel_rfl

-- f75 fingerpost/epoch.Newer  boxes 2 notes []
def a75 : AC := .seq (.reg [⟨some 2, .box 0 2 (.t 0), none⟩,
      ⟨some 3, .box 1 2 (.t 1), none⟩,
      ⟨some 4, .cp (.c (.bool false)), none⟩]) (
  .seq (.seq (.reg [⟨some 5, .fa 0 (.t 2), none⟩,
      ⟨some 6, .ld none (.t 5), none⟩,
      ⟨some 7, .fa 0 (.t 3), none⟩,
      ⟨some 8, .ld none (.t 7), none⟩,
      ⟨some 9, .bin .neq (.t 6) (.t 8), none⟩]) (
  .cond (.t 9) (
    .seq (.reg [⟨some 10, .fa 0 (.t 2), none⟩,
        ⟨some 11, .ld none (.t 10), none⟩,
        ⟨some 12, .fa 0 (.t 3), none⟩,
        ⟨some 13, .ld none (.t 12), none⟩,
        ⟨some 14, .bin .gtr (.t 11) (.t 13), none⟩,
        ⟨some 4, .cp (.t 14), none⟩]) (
    .ret)) (
    .skip))) (
  .seq (.reg [⟨some 15, .fa 1 (.t 2), none⟩,
      ⟨some 16, .ld none (.t 15), none⟩,
      ⟨some 17, .fa 1 (.t 3), none⟩,
      ⟨some 18, .ld none (.t 17), none⟩,
      ⟨some 19, .bin .gtr (.t 16) (.t 18), none⟩,
      ⟨some 4, .cp (.t 19), none⟩]) (
  .ret)))
def af75 : AFn := ⟨20, 2, [.t 4], a75⟩
theorem ak75 : chkF Try.prog 75 af75 = true := by kernel_rfl

-- f76 fingerpost/fingerpostref05.Newer  boxes 2 notes []
def a76 : AC := .seq (.reg [⟨some 2, .box 0 2 (.t 0), none⟩,
      ⟨some 3, .box 1 2 (.t 1), none⟩,
      ⟨some 4, .cp (.c (.bool false)), none⟩]) (
  .seq (.seq (.reg [⟨some 5, .fa 0 (.t 2), none⟩,
      ⟨some 6, .ld none (.t 5), none⟩,
      ⟨some 7, .fa 0 (.t 3), none⟩,
      ⟨some 8, .ld none (.t 7), none⟩,
      ⟨some 9, .bin .neq (.t 6) (.t 8), none⟩]) (
  .cond (.t 9) (
    .seq (.reg [⟨some 10, .fa 0 (.t 2), none⟩,
        ⟨some 11, .ld none (.t 10), none⟩,
        ⟨some 12, .fa 0 (.t 3), none⟩,
        ⟨some 13, .ld none (.t 12), none⟩,
        ⟨some 14, .bin .gtr (.t 11) (.t 13), none⟩,
        ⟨some 4, .cp (.t 14), none⟩]) (
    .ret)) (
    .skip))) (
  .seq (.reg [⟨some 15, .fa 1 (.t 2), none⟩,
      ⟨some 16, .ld none (.t 15), none⟩,
      ⟨some 17, .fa 1 (.t 3), none⟩,
      ⟨some 18, .ld none (.t 17), none⟩,
      ⟨some 19, .bin .gtr (.t 16) (.t 18), none⟩,
      ⟨some 4, .cp (.t 19), none⟩]) (
  .ret)))
def af76 : AFn := ⟨20, 2, [.t 4], a76⟩
theorem ak76 : chkF Try.prog 76 af76 = true := by kernel_rfl

-- f5 fingerpost/fingerpostlaw06.HelloKnows  boxes 3 notes []
def a5 : AC := .seq (.reg [⟨some 3, .box 0 5 (.t 0), none⟩,
      ⟨some 4, .box 1 5 (.t 1), none⟩,
      ⟨some 5, .box 2 2 (.t 2), none⟩,
      ⟨some 6, .cp (.c (.bool false)), none⟩]) (
  .seq (.reg [⟨some 8, .ld (some 5) (.t 3), none⟩,
      ⟨some 9, .ld (some 2) (.t 5), none⟩,
      ⟨some 10, .call 21 [.t 8, .t 9], none⟩,
      ⟨some 7, .cp (.t 10), none⟩]) (
  .seq (.seq (.drw [⟨some 11, .cp (.t 7), none⟩,
      ⟨some 12, .ld (some 5) (.t 3), none⟩,
      ⟨some 13, .ld (some 2) (.t 5), none⟩,
      ⟨some 14, .call 22 [.t 12, .t 13], none⟩,
      ⟨some 15, .bin .neq (.t 11) (.t 14), none⟩,
      ⟨some 16, .cp (.t 15), none⟩,
      ⟨some 17, .ld (some 5) (.t 3), some (16, false)⟩,
      ⟨some 18, .ld (some 5) (.t 4), some (16, false)⟩,
      ⟨some 19, .call 23 [.t 17, .t 18], some (16, false)⟩,
      ⟨some 20, .ld (some 5) (.t 3), some (16, false)⟩,
      ⟨some 21, .ld (some 5) (.t 4), some (16, false)⟩,
      ⟨some 22, .call 24 [.t 20, .t 21], some (16, false)⟩,
      ⟨some 23, .eqB true (.t 19) (.t 22), some (16, false)⟩,
      ⟨some 24, .pick (.t 16) (.c (.bool true)) (.t 23), none⟩,
      ⟨some 25, .cp (.t 24), none⟩,
      ⟨some 26, .cp (.t 7), some (25, false)⟩,
      ⟨some 27, .bin .lss (.t 26) (.c (.int .i64 0)), some (25, false)⟩,
      ⟨some 28, .pick (.t 25) (.c (.bool true)) (.t 27), none⟩,
      ⟨some 29, .cp (.t 28), none⟩,
      ⟨some 30, .cp (.t 7), some (29, false)⟩,
      ⟨some 31, .bin .gtr (.t 30) (.c (.int .i64 3)), some (29, false)⟩,
      ⟨some 32, .pick (.t 29) (.c (.bool true)) (.t 31), none⟩,
      ⟨some 33, .cp (.t 32), none⟩,
      ⟨some 34, .cp (.t 7), some (33, false)⟩,
      ⟨some 35, .bin .eql (.t 34) (.c (.int .i64 0)), some (33, false)⟩,
      ⟨some 36, .fa 1 (.t 3), some (33, false)⟩,
      ⟨some 37, .fa 2 (.t 36), some (33, false)⟩,
      ⟨some 38, .ld (some 2) (.t 37), some (33, false)⟩,
      ⟨some 39, .call 25 [.t 38], some (33, false)⟩,
      ⟨some 40, .eqB true (.t 35) (.t 39), some (33, false)⟩,
      ⟨some 41, .pick (.t 33) (.c (.bool true)) (.t 40), none⟩]) (
  .cond (.t 41) (
    .seq (.reg [⟨some 6, .cp (.c (.bool false)), none⟩]) (
    .ret)) (
    .skip))) (
  .seq (.reg [⟨some 42, .ld (some 5) (.t 3), none⟩,
      ⟨some 43, .ld (some 5) (.t 4), none⟩,
      ⟨some 44, .call 23 [.t 42, .t 43], none⟩,
      ⟨some 45, .un .not (.t 44), none⟩,
      ⟨some 46, .cp (.t 45), none⟩,
      ⟨some 47, .ld (some 5) (.t 4), some (46, false)⟩,
      ⟨some 48, .fa 1 (.t 3), some (46, false)⟩,
      ⟨some 49, .fa 0 (.t 48), some (46, false)⟩,
      ⟨some 50, .ld (some 2) (.t 49), some (46, false)⟩,
      ⟨some 51, .call 21 [.t 47, .t 50], some (46, false)⟩,
      ⟨some 52, .bin .eql (.t 51) (.c (.int .i64 3)), some (46, false)⟩,
      ⟨some 53, .cp (.t 52), some (46, false)⟩,
      ⟨some 54, .fa 0 (.t 3), some (53, true)⟩,
      ⟨some 55, .ld none (.t 54), some (53, true)⟩,
      ⟨some 56, .fa 0 (.t 4), some (53, true)⟩,
      ⟨some 57, .ld none (.t 56), some (53, true)⟩,
      ⟨some 58, .bin .neq (.t 55) (.t 57), some (53, true)⟩,
      ⟨some 59, .pick (.t 53) (.t 58) (.c (.bool false)), some (46, false)⟩,
      ⟨some 60, .cp (.t 59), some (46, false)⟩,
      ⟨some 61, .ld (some 5) (.t 3), some (60, true)⟩,
      ⟨some 62, .call 19 [.t 61], some (60, true)⟩,
      ⟨some 63, .pick (.t 60) (.t 62) (.c (.bool false)), some (46, false)⟩,
      ⟨some 64, .pick (.t 46) (.c (.bool true)) (.t 63), none⟩,
      ⟨some 65, .cp (.t 64), none⟩,
      ⟨some 66, .call 14 [], some (65, true)⟩,
      ⟨some 67, .pick (.t 65) (.t 66) (.c (.bool false)), none⟩,
      ⟨some 6, .cp (.t 67), none⟩]) (
  .ret))))
def af5 : AFn := ⟨68, 3, [.t 6], a5⟩
theorem ak5 : chkF Try.prog 5 af5 = true := by kernel_rfl

end Go.Proofs.Ytildhamfnfifjaa

/- The functions as data, and that they are the program's. -/
import Derived.Test.YtmchbkmenokkdaaAwN
set_option maxRecDepth 100000
namespace Go.Proofs.Ytmchbkmenokkdaa
open Go.RowKit
-- f10 fingerpost/fingerpostlaw40.AirPlays  boxes 3 notes []
def a10_l0 : AC := .seq (.reg [⟨some 25, .bin .lss (.t 24) (.t 23), none⟩]) (
  .seq (.cond (.t 25) (
    .skip) (
    .exit 0)) (
  .seq (.block 1 (
    .seq (.reg [⟨some 26, .iaE 5 (.t 22) (.t 24), none⟩,
        ⟨some 27, .ld (some 5) (.t 26), none⟩,
        ⟨some 7, .alloc 0 5 [.int .i64 0, .int .i64 0, .int .i64 0, .str [], .int .i64 0], none⟩,
        ⟨none, .st 5 (.t 7) (.t 27), none⟩]) (
    .seq (.reg [⟨some 8, .alloc 1 3 [.int .i64 0, .int .i64 0, .str []], none⟩,
        ⟨some 9, .alloc 2 3 [.int .i64 0, .int .i64 0, .str []], none⟩]) (
    .seq (.reg [⟨some 10, .cp (.c (.int .i64 0)), none⟩,
        ⟨some 11, .cp (.c (.int .i64 0)), none⟩]) (
    .seq (.seq (.reg [⟨some 28, .fa 0 (.t 7), none⟩,
        ⟨some 29, .ld none (.t 28), none⟩]) (
    .block 2 (
      .seq (.reg [⟨some 45, .bin .eql (.t 29) (.c (.int .i64 0)), none⟩,
          ⟨some 44, .cp (.t 45), none⟩]) (
      .cond (.t 44) (
        .seq (.reg [⟨some 47, .tk 0, none⟩,
            ⟨some 48, .fa 1 (.t 7), none⟩,
            ⟨some 49, .ld (some 3) (.t 48), none⟩,
            ⟨some 50, .bs 3 [.t 49], none⟩,
            ⟨some 51, .call 57 [.t 47, .t 50], none⟩,
            ⟨some 46, .tk 51, none⟩,
            ⟨some 52, .extt 46 0, none⟩,
            ⟨some 53, .ext (.t 46) 1, none⟩,
            ⟨some 0, .cp (.t 52), none⟩,
            ⟨some 10, .cp (.t 53), none⟩]) (
        .reg [⟨some 55, .tk 5, none⟩,
            ⟨some 56, .fa 1 (.t 7), none⟩,
            ⟨some 57, .ld (some 3) (.t 56), none⟩,
            ⟨some 58, .bs 3 [.t 57], none⟩,
            ⟨some 59, .call 58 [.t 55, .t 58], none⟩,
            ⟨some 54, .tk 59, none⟩,
            ⟨some 60, .extt 54 0, none⟩,
            ⟨some 61, .ext (.t 54) 1, none⟩,
            ⟨some 5, .tk 60, none⟩,
            ⟨some 11, .cp (.t 61), none⟩])) (
        .seq (.reg [⟨some 63, .bin .eql (.t 29) (.c (.int .i64 1)), none⟩,
            ⟨some 62, .cp (.t 63), none⟩]) (
        .cond (.t 62) (
          .seq (.reg [⟨some 65, .tk 0, none⟩,
              ⟨some 66, .fa 4 (.t 7), none⟩,
              ⟨some 67, .ld none (.t 66), none⟩,
              ⟨some 68, .call 59 [.t 65, .t 67], none⟩,
              ⟨some 64, .tk 68, none⟩,
              ⟨some 69, .extt 64 0, none⟩,
              ⟨some 70, .ext (.t 64) 1, none⟩,
              ⟨some 71, .ext (.t 64) 2, none⟩,
              ⟨some 0, .cp (.t 69), none⟩,
              ⟨none, .st 3 (.t 8) (.t 70), none⟩,
              ⟨some 10, .cp (.t 71), none⟩]) (
          .reg [⟨some 73, .tk 5, none⟩,
              ⟨some 74, .fa 4 (.t 7), none⟩,
              ⟨some 75, .ld none (.t 74), none⟩,
              ⟨some 76, .call 60 [.t 73, .t 75], none⟩,
              ⟨some 72, .tk 76, none⟩,
              ⟨some 77, .extt 72 0, none⟩,
              ⟨some 78, .ext (.t 72) 1, none⟩,
              ⟨some 79, .ext (.t 72) 2, none⟩,
              ⟨some 5, .tk 77, none⟩,
              ⟨none, .st 3 (.t 9) (.t 78), none⟩,
              ⟨some 11, .cp (.t 79), none⟩])) (
          .seq (.reg [⟨some 31, .tk 0, none⟩,
              ⟨some 32, .fa 4 (.t 7), none⟩,
              ⟨some 33, .ld none (.t 32), none⟩,
              ⟨some 34, .call 61 [.t 31, .t 33], none⟩,
              ⟨some 30, .tk 34, none⟩,
              ⟨some 35, .extt 30 0, none⟩,
              ⟨some 36, .ext (.t 30) 1, none⟩,
              ⟨some 0, .cp (.t 35), none⟩,
              ⟨some 10, .cp (.t 36), none⟩]) (
          .reg [⟨some 38, .tk 5, none⟩,
              ⟨some 39, .fa 4 (.t 7), none⟩,
              ⟨some 40, .ld none (.t 39), none⟩,
              ⟨some 41, .call 62 [.t 38, .t 40], none⟩,
              ⟨some 37, .tk 41, none⟩,
              ⟨some 42, .extt 37 0, none⟩,
              ⟨some 43, .ext (.t 37) 1, none⟩,
              ⟨some 5, .tk 42, none⟩,
              ⟨some 11, .cp (.t 43), none⟩])))))))) (
    .seq (.drw [⟨some 80, .ld (some 3) (.t 8), none⟩,
        ⟨some 81, .ld (some 3) (.t 9), none⟩,
        ⟨some 82, .eqA true [.i, .i, .s] (.t 80) (.t 81), none⟩,
        ⟨some 83, .cp (.t 82), none⟩,
        ⟨some 84, .cp (.t 10), some (83, false)⟩,
        ⟨some 85, .cp (.t 11), some (83, false)⟩,
        ⟨some 86, .bin .neq (.t 84) (.t 85), some (83, false)⟩,
        ⟨some 87, .pick (.t 83) (.c (.bool true)) (.t 86), none⟩,
        ⟨some 88, .cp (.t 87), none⟩,
        ⟨some 89, .cp (.t 0), some (88, false)⟩,
        ⟨some 90, .cp (.t 5), some (88, false)⟩,
        ⟨some 91, .call 63 [.t 89, .t 90], some (88, false)⟩,
        ⟨some 92, .un .not (.t 91), some (88, false)⟩,
        ⟨some 93, .pick (.t 88) (.c (.bool true)) (.t 92), none⟩,
        ⟨some 94, .cp (.t 93), none⟩,
        ⟨some 95, .cp (.t 0), some (94, false)⟩,
        ⟨some 96, .cp (.t 5), some (94, false)⟩,
        ⟨some 97, .call 64 [.t 95, .t 96], some (94, false)⟩,
        ⟨some 98, .un .not (.t 97), some (94, false)⟩,
        ⟨some 99, .pick (.t 94) (.c (.bool true)) (.t 98), none⟩,
        ⟨some 100, .cp (.t 99), none⟩,
        ⟨some 101, .cp (.t 0), some (100, false)⟩,
        ⟨some 102, .fa 1 (.t 7), some (100, false)⟩,
        ⟨some 103, .fa 0 (.t 102), some (100, false)⟩,
        ⟨some 104, .ld none (.t 103), some (100, false)⟩,
        ⟨some 105, .fa 1 (.t 7), some (100, false)⟩,
        ⟨some 106, .fa 1 (.t 105), some (100, false)⟩,
        ⟨some 107, .ld none (.t 106), some (100, false)⟩,
        ⟨some 108, .call 65 [.t 101, .t 104, .t 107], some (100, false)⟩,
        ⟨some 109, .cp (.t 5), some (100, false)⟩,
        ⟨some 110, .fa 1 (.t 7), some (100, false)⟩,
        ⟨some 111, .fa 0 (.t 110), some (100, false)⟩,
        ⟨some 112, .ld none (.t 111), some (100, false)⟩,
        ⟨some 113, .fa 1 (.t 7), some (100, false)⟩,
        ⟨some 114, .fa 1 (.t 113), some (100, false)⟩,
        ⟨some 115, .ld none (.t 114), some (100, false)⟩,
        ⟨some 116, .call 66 [.t 109, .t 112, .t 115], some (100, false)⟩,
        ⟨some 117, .bin .neq (.t 108) (.t 116), some (100, false)⟩,
        ⟨some 118, .pick (.t 100) (.c (.bool true)) (.t 117), none⟩] []) (
    .cond (.t 118) (
      .seq (.reg [⟨some 4, .cp (.c (.bool false)), none⟩]) (
      .ret)) (
      .skip)))))))) (
  .reg [⟨some 119, .bin .add (.t 24) (.c (.int .i64 1)), none⟩,
      ⟨some 24, .cp (.t 119), none⟩])))
def a10 : AC := .seq (.reg [⟨some 4, .cp (.c (.bool false)), none⟩]) (
  .seq (.seq (.reg [⟨some 12, .cp (.t 0), none⟩,
      ⟨some 13, .len (.t 12), none⟩,
      ⟨some 14, .bin .gtr (.t 13) (.c (.int .i64 610)), none⟩,
      ⟨some 15, .cp (.t 14), none⟩,
      ⟨some 16, .cp (.t 1), some (15, false)⟩,
      ⟨some 17, .len (.t 16), some (15, false)⟩,
      ⟨some 18, .bin .gtr (.t 17) (.c (.int .i64 60)), some (15, false)⟩,
      ⟨some 19, .pick (.t 15) (.c (.bool true)) (.t 18), none⟩]) (
  .cond (.t 19) (
    .seq (.reg [⟨some 20, .call 56 [], none⟩,
        ⟨some 4, .cp (.t 20), none⟩]) (
    .ret)) (
    .skip))) (
  .seq (.reg [⟨some 21, .cp (.t 0), none⟩,
      ⟨some 5, .tk 21, none⟩]) (
  .seq (.seq (.reg [⟨some 22, .tk 1, none⟩,
      ⟨some 23, .len (.t 22), none⟩,
      ⟨some 24, .cp (.c (.int .i64 0)), none⟩]) (
  .block 0 (
    .loop [false, false, false, false, true, false, false, true, true, true, true, true, false, false, false, false, false, false, false, false, false, false, false, false, false, true, true, true, true, true, true, true, true, true, true, true, true, true, true, true, true, true, true, true, true, true, true, true, true, true, true, true, true, true, true, true, true, true, true, true, true, true, true, true, true, true, true, true, true, true, true, true, true, true, true, true, true, true, true, true, true, true, true, true, true, true, true, true, true, true, true, true, true, true, true, true, true, true, true, true, true, true, true, true, true, true, true, true, true, true, true, true, true, true, true, true, true, true, true, true] [0, 1, 2] a10_l0))) (
  .seq (.reg [⟨some 120, .call 67 [], none⟩,
      ⟨some 121, .call 68 [], none⟩,
      ⟨some 122, .bin .eql (.t 120) (.t 121), none⟩,
      ⟨some 123, .cp (.t 122), none⟩,
      ⟨some 124, .call 56 [], some (123, true)⟩,
      ⟨some 125, .pick (.t 123) (.t 124) (.c (.bool false)), none⟩,
      ⟨some 4, .cp (.t 125), none⟩]) (
  .ret)))))
def af10 : AFn := ⟨126, 3, [.t 4], a10⟩
theorem ak10 : chkF Try.prog 10 af10 = true := by kernel_rfl

-- f11 fingerpost/fingerpostlaw40.AirKeeps  boxes 2 notes []
def a11_l0 : AC := .seq (.reg [⟨some 21, .bin .lss (.t 20) (.t 19), none⟩]) (
  .seq (.cond (.t 21) (
    .skip) (
    .exit 0)) (
  .seq (.block 1 (
    .seq (.reg [⟨some 22, .iaE 5 (.t 18) (.t 20), none⟩,
        ⟨some 23, .ld (some 5) (.t 22), none⟩,
        ⟨some 6, .alloc 0 5 [.int .i64 0, .int .i64 0, .int .i64 0, .str [], .int .i64 0], none⟩,
        ⟨none, .st 5 (.t 6) (.t 23), none⟩]) (
    .seq (.seq (.reg [⟨some 24, .fa 0 (.t 6), none⟩,
        ⟨some 25, .ld none (.t 24), none⟩]) (
    .block 2 (
      .seq (.reg [⟨some 51, .bin .eql (.t 25) (.c (.int .i64 0)), none⟩,
          ⟨some 50, .cp (.t 51), none⟩]) (
      .cond (.t 50) (
        .seq (.reg [⟨some 53, .tk 3, none⟩,
            ⟨some 54, .fa 1 (.t 6), none⟩,
            ⟨some 55, .ld (some 3) (.t 54), none⟩,
            ⟨some 56, .bs 3 [.t 55], none⟩,
            ⟨some 57, .call 57 [.t 53, .t 56], none⟩,
            ⟨some 52, .tk 57, none⟩,
            ⟨some 58, .extt 52 0, none⟩,
            ⟨some 59, .ext (.t 52) 1, none⟩,
            ⟨some 7, .tk 58, none⟩,
            ⟨some 8, .cp (.t 59), none⟩]) (
        .seq (.seq (.reg [⟨some 60, .cp (.t 8), none⟩,
            ⟨some 61, .bin .neq (.t 60) (.c (.int .i64 0)), none⟩]) (
        .cond (.t 61) (
          .seq (.reg [⟨some 2, .cp (.c (.bool false)), none⟩]) (
          .ret)) (
          .skip))) (
        .seq (.reg [⟨some 62, .tk 7, none⟩,
            ⟨some 3, .tk 62, none⟩]) (
        .reg [⟨some 63, .cp (.t 4), none⟩,
            ⟨some 64, .bin .add (.t 63) (.c (.int .i64 1)), none⟩,
            ⟨some 4, .cp (.t 64), none⟩])))) (
        .seq (.reg [⟨some 66, .bin .eql (.t 25) (.c (.int .i64 1)), none⟩,
            ⟨some 65, .cp (.t 66), none⟩]) (
        .cond (.t 65) (
          .seq (.reg [⟨some 68, .cp (.t 3), none⟩,
              ⟨some 69, .fa 4 (.t 6), none⟩,
              ⟨some 70, .ld none (.t 69), none⟩,
              ⟨some 71, .call 59 [.t 68, .t 70], none⟩,
              ⟨some 67, .tk 71, none⟩,
              ⟨some 72, .extt 67 0, none⟩,
              ⟨some 73, .ext (.t 67) 1, none⟩,
              ⟨some 74, .ext (.t 67) 2, none⟩,
              ⟨some 10, .alloc 1 3 [.int .i64 0, .int .i64 0, .str []], none⟩,
              ⟨some 9, .tk 72, none⟩,
              ⟨none, .st 3 (.t 10) (.t 73), none⟩,
              ⟨some 11, .cp (.t 74), none⟩]) (
          .seq (.seq (.reg [⟨some 75, .cp (.t 3), none⟩,
              ⟨some 76, .len (.t 75), none⟩,
              ⟨some 77, .cp (.t 4), none⟩,
              ⟨some 78, .bin .neq (.t 76) (.t 77), none⟩]) (
          .cond (.t 78) (
            .seq (.reg [⟨some 2, .cp (.c (.bool false)), none⟩]) (
            .ret)) (
            .skip))) (
          .seq (.seq (.drw [⟨some 79, .cp (.t 11), none⟩,
              ⟨some 80, .bin .eql (.t 79) (.c (.int .i64 0)), none⟩,
              ⟨some 81, .fa 4 (.t 6), none⟩,
              ⟨some 82, .ld none (.t 81), none⟩,
              ⟨some 83, .bin .geq (.t 82) (.c (.int .i64 0)), none⟩,
              ⟨some 84, .cp (.t 83), none⟩,
              ⟨some 85, .fa 4 (.t 6), some (84, true)⟩,
              ⟨some 86, .ld none (.t 85), some (84, true)⟩,
              ⟨some 87, .cp (.t 3), some (84, true)⟩,
              ⟨some 88, .len (.t 87), some (84, true)⟩,
              ⟨some 89, .bin .lss (.t 86) (.t 88), some (84, true)⟩,
              ⟨some 90, .pick (.t 84) (.t 89) (.c (.bool false)), none⟩,
              ⟨some 91, .eqB true (.t 80) (.t 90), none⟩,
              ⟨some 92, .cp (.t 91), none⟩,
              ⟨some 93, .cp (.t 11), some (92, false)⟩,
              ⟨some 94, .bin .eql (.t 93) (.c (.int .i64 0)), some (92, false)⟩,
              ⟨some 95, .cp (.t 94), some (92, false)⟩,
              ⟨some 96, .ld (some 3) (.t 10), some (95, true)⟩,
              ⟨some 97, .cp (.t 3), some (95, true)⟩,
              ⟨some 98, .fa 4 (.t 6), some (95, true)⟩,
              ⟨some 99, .ld none (.t 98), some (95, true)⟩,
              ⟨some 100, .iaE 3 (.t 97) (.t 99), some (95, true)⟩,
              ⟨some 101, .ld (some 3) (.t 100), some (95, true)⟩,
              ⟨some 102, .eqA true [.i, .i, .s] (.t 96) (.t 101), some (95, true)⟩,
              ⟨some 103, .pick (.t 95) (.t 102) (.c (.bool false)), some (92, false)⟩,
              ⟨some 104, .pick (.t 92) (.c (.bool true)) (.t 103), none⟩] []) (
          .cond (.t 104) (
            .seq (.reg [⟨some 2, .cp (.c (.bool false)), none⟩]) (
            .ret)) (
            .skip))) (
          .seq (.seq (.reg [⟨some 105, .cp (.t 11), none⟩,
              ⟨some 106, .bin .eql (.t 105) (.c (.int .i64 0)), none⟩]) (
          .cond (.t 106) (
            .reg [⟨some 107, .cp (.t 4), none⟩,
                ⟨some 108, .bin .sub (.t 107) (.c (.int .i64 1)), none⟩,
                ⟨some 4, .cp (.t 108), none⟩]) (
            .skip))) (
          .reg [⟨some 109, .tk 9, none⟩,
              ⟨some 3, .tk 109, none⟩]))))) (
          .seq (.reg [⟨some 27, .tk 3, none⟩,
              ⟨some 28, .fa 4 (.t 6), none⟩,
              ⟨some 29, .ld none (.t 28), none⟩,
              ⟨some 30, .call 61 [.t 27, .t 29], none⟩,
              ⟨some 26, .tk 30, none⟩,
              ⟨some 31, .extt 26 0, none⟩,
              ⟨some 32, .ext (.t 26) 1, none⟩,
              ⟨some 12, .tk 31, none⟩,
              ⟨some 13, .cp (.t 32), none⟩]) (
          .seq (.seq (.reg [⟨some 33, .cp (.t 13), none⟩,
              ⟨some 34, .bin .eql (.t 33) (.c (.int .i64 0)), none⟩,
              ⟨some 35, .fa 4 (.t 6), none⟩,
              ⟨some 36, .ld none (.t 35), none⟩,
              ⟨some 37, .bin .geq (.t 36) (.c (.int .i64 0)), none⟩,
              ⟨some 38, .cp (.t 37), none⟩,
              ⟨some 39, .fa 4 (.t 6), some (38, true)⟩,
              ⟨some 40, .ld none (.t 39), some (38, true)⟩,
              ⟨some 41, .cp (.t 4), some (38, true)⟩,
              ⟨some 42, .bin .lss (.t 40) (.t 41), some (38, true)⟩,
              ⟨some 43, .pick (.t 38) (.t 42) (.c (.bool false)), none⟩,
              ⟨some 44, .eqB true (.t 34) (.t 43), none⟩]) (
          .cond (.t 44) (
            .seq (.reg [⟨some 2, .cp (.c (.bool false)), none⟩]) (
            .ret)) (
            .skip))) (
          .seq (.seq (.reg [⟨some 45, .cp (.t 13), none⟩,
              ⟨some 46, .bin .eql (.t 45) (.c (.int .i64 0)), none⟩]) (
          .cond (.t 46) (
            .reg [⟨some 47, .cp (.t 4), none⟩,
                ⟨some 48, .bin .add (.t 47) (.c (.int .i64 1)), none⟩,
                ⟨some 4, .cp (.t 48), none⟩]) (
            .skip))) (
          .reg [⟨some 49, .tk 12, none⟩,
              ⟨some 3, .tk 49, none⟩])))))))))) (
    .seq (.reg [⟨some 110, .cp (.t 3), none⟩,
        ⟨some 111, .len (.t 110), none⟩,
        ⟨some 112, .cp (.t 4), none⟩,
        ⟨some 113, .bin .neq (.t 111) (.t 112), none⟩]) (
    .cond (.t 113) (
      .seq (.reg [⟨some 2, .cp (.c (.bool false)), none⟩]) (
      .ret)) (
      .skip)))))) (
  .reg [⟨some 114, .bin .add (.t 20) (.c (.int .i64 1)), none⟩,
      ⟨some 20, .cp (.t 114), none⟩])))
def a11 : AC := .seq (.reg [⟨some 2, .cp (.c (.bool false)), none⟩]) (
  .seq (.seq (.reg [⟨some 14, .cp (.t 0), none⟩,
      ⟨some 15, .len (.t 14), none⟩,
      ⟨some 16, .bin .gtr (.t 15) (.c (.int .i64 100)), none⟩]) (
  .cond (.t 16) (
    .seq (.reg [⟨some 17, .call 56 [], none⟩,
        ⟨some 2, .cp (.t 17), none⟩]) (
    .ret)) (
    .skip))) (
  .seq (.reg [⟨some 3, .cp (.c (.sl .own 3 [])), none⟩]) (
  .seq (.reg [⟨some 4, .cp (.c (.int .i64 0)), none⟩]) (
  .seq (.seq (.reg [⟨some 18, .tk 0, none⟩,
      ⟨some 19, .len (.t 18), none⟩,
      ⟨some 20, .cp (.c (.int .i64 0)), none⟩]) (
  .block 0 (
    .loop [false, false, true, false, false, false, true, true, true, true, true, true, true, true, false, false, false, false, false, false, false, true, true, true, true, true, true, true, true, true, true, true, true, true, true, true, true, true, true, true, true, true, true, true, true, true, true, true, true, true, true, true, true, true, true, true, true, true, true, true, true, true, true, true, true, true, true, true, true, true, true, true, true, true, true, true, true, true, true, true, true, true, true, true, true, true, true, true, true, true, true, true, true, true, true, true, true, true, true, true, true, true, true, true, true, true, true, true, true, true, true, true, true, true, true] [0, 1] a11_l0))) (
  .seq (.reg [⟨some 115, .call 56 [], none⟩,
      ⟨some 2, .cp (.t 115), none⟩]) (
  .ret))))))
def af11 : AFn := ⟨116, 2, [.t 2], a11⟩
theorem ak11 : chkF Try.prog 11 af11 = true := by kernel_rfl

-- f12 fingerpost/fingerpostlaw40.AirMixes  boxes 2 notes []
def a12_l1 : AC := .seq (.reg [⟨some 121, .bin .lss (.t 120) (.t 119), none⟩]) (
  .seq (.cond (.t 121) (
    .skip) (
    .exit 2)) (
  .seq (.block 3 (
    .seq (.reg [⟨some 122, .cp (.t 120), none⟩,
        ⟨some 21, .cp (.t 122), none⟩]) (
    .seq (.seq (.drw [⟨some 123, .cp (.t 0), none⟩,
        ⟨some 124, .cp (.t 21), none⟩,
        ⟨some 125, .iaE 3 (.t 123) (.t 124), none⟩,
        ⟨some 126, .ld (some 3) (.t 125), none⟩,
        ⟨some 127, .ld (some 3) (.t 18), none⟩,
        ⟨some 128, .eqA false [.i, .i, .s] (.t 126) (.t 127), none⟩] []) (
    .cond (.t 128) (
      .reg [⟨some 129, .cp (.t 19), none⟩,
          ⟨some 130, .bin .add (.t 129) (.c (.int .i64 1)), none⟩,
          ⟨some 19, .cp (.t 130), none⟩]) (
      .skip))) (
    .seq (.drw [⟨some 131, .cp (.t 21), none⟩,
        ⟨some 132, .cp (.t 7), none⟩,
        ⟨some 133, .len (.t 132), none⟩,
        ⟨some 134, .bin .lss (.t 131) (.t 133), none⟩,
        ⟨some 135, .cp (.t 134), none⟩,
        ⟨some 136, .cp (.t 7), some (135, true)⟩,
        ⟨some 137, .cp (.t 21), some (135, true)⟩,
        ⟨some 138, .iaE 3 (.t 136) (.t 137), some (135, true)⟩,
        ⟨some 139, .ld (some 3) (.t 138), some (135, true)⟩,
        ⟨some 140, .ld (some 3) (.t 18), some (135, true)⟩,
        ⟨some 141, .eqA false [.i, .i, .s] (.t 139) (.t 140), some (135, true)⟩,
        ⟨some 142, .pick (.t 135) (.t 141) (.c (.bool false)), none⟩] []) (
    .cond (.t 142) (
      .reg [⟨some 143, .cp (.t 20), none⟩,
          ⟨some 144, .bin .add (.t 143) (.c (.int .i64 1)), none⟩,
          ⟨some 20, .cp (.t 144), none⟩]) (
      .skip)))))) (
  .reg [⟨some 145, .bin .add (.t 120) (.c (.int .i64 1)), none⟩,
      ⟨some 120, .cp (.t 145), none⟩])))
def a12_l0 : AC := .seq (.reg [⟨some 115, .bin .lss (.t 114) (.t 113), none⟩]) (
  .seq (.cond (.t 115) (
    .skip) (
    .exit 0)) (
  .seq (.block 1 (
    .seq (.reg [⟨some 116, .iaE 3 (.t 112) (.t 114), none⟩,
        ⟨some 117, .ld (some 3) (.t 116), none⟩,
        ⟨some 18, .alloc 1 3 [.int .i64 0, .int .i64 0, .str []], none⟩,
        ⟨none, .st 3 (.t 18) (.t 117), none⟩]) (
    .seq (.reg [⟨some 19, .cp (.c (.int .i64 0)), none⟩,
        ⟨some 20, .cp (.c (.int .i64 0)), none⟩]) (
    .seq (.seq (.reg [⟨some 118, .cp (.t 0), none⟩,
        ⟨some 119, .len (.t 118), none⟩,
        ⟨some 120, .cp (.c (.int .i64 0)), none⟩]) (
    .block 2 (
      .loop [false, false, false, false, false, false, false, false, false, false, false, false, false, false, false, false, false, false, false, false, false, true, false, false, false, false, false, false, false, false, false, false, false, false, false, false, false, false, false, false, false, false, false, false, false, false, false, false, false, false, false, false, false, false, false, false, false, false, false, false, false, false, false, false, false, false, false, false, false, false, false, false, false, false, false, false, false, false, false, false, false, false, false, false, false, false, false, false, false, false, false, false, false, false, false, false, false, false, false, false, false, false, false, false, false, false, false, false, false, false, false, false, false, false, false, false, false, false, false, false, false, true, true, true, true, true, true, true, true, true, true, true, true, true, true, true, true, true, true, true, true, true, true, true, true, true] [] a12_l1))) (
    .seq (.reg [⟨some 146, .cp (.t 19), none⟩,
        ⟨some 147, .cp (.t 20), none⟩,
        ⟨some 148, .bin .neq (.t 146) (.t 147), none⟩]) (
    .cond (.t 148) (
      .seq (.reg [⟨some 6, .cp (.c (.bool false)), none⟩]) (
      .ret)) (
      .skip))))))) (
  .reg [⟨some 149, .bin .add (.t 114) (.c (.int .i64 1)), none⟩,
      ⟨some 114, .cp (.t 149), none⟩])))
def a12 : AC := .seq (.reg [⟨some 5, .box 0 2 (.t 2), none⟩,
      ⟨some 6, .cp (.c (.bool false)), none⟩]) (
  .seq (.seq (.reg [⟨some 26, .cp (.t 0), none⟩,
      ⟨some 27, .len (.t 26), none⟩,
      ⟨some 28, .bin .gtr (.t 27) (.c (.int .i64 40)), none⟩]) (
  .cond (.t 28) (
    .seq (.reg [⟨some 29, .call 56 [], none⟩,
        ⟨some 6, .cp (.t 29), none⟩]) (
    .ret)) (
    .skip))) (
  .seq (.reg [⟨some 30, .cp (.t 0), none⟩,
      ⟨some 31, .cp (.t 1), none⟩,
      ⟨some 32, .call 69 [.t 30, .t 31], none⟩,
      ⟨some 33, .cp (.t 0), none⟩,
      ⟨some 34, .cp (.t 1), none⟩,
      ⟨some 35, .call 70 [.t 33, .t 34], none⟩,
      ⟨some 7, .tk 32, none⟩,
      ⟨some 8, .tk 35, none⟩]) (
  .seq (.reg [⟨some 37, .cp (.t 0), none⟩,
      ⟨some 38, .cp (.t 1), none⟩,
      ⟨some 39, .ia 1 (some 2) (.t 5) (.c (.int .i64 0)), none⟩,
      ⟨some 40, .ld none (.t 39), none⟩,
      ⟨some 41, .call 71 [.t 37, .t 38, .t 40], none⟩,
      ⟨some 36, .tk 41, none⟩,
      ⟨some 42, .extt 36 0, none⟩,
      ⟨some 43, .ext (.t 36) 1, none⟩,
      ⟨some 9, .tk 42, none⟩,
      ⟨some 10, .cp (.t 43), none⟩]) (
  .seq (.reg [⟨some 45, .cp (.t 0), none⟩,
      ⟨some 46, .cp (.t 1), none⟩,
      ⟨some 47, .ia 1 (some 2) (.t 5) (.c (.int .i64 0)), none⟩,
      ⟨some 48, .ld none (.t 47), none⟩,
      ⟨some 49, .call 72 [.t 45, .t 46, .t 48], none⟩,
      ⟨some 44, .tk 49, none⟩,
      ⟨some 50, .extt 44 0, none⟩,
      ⟨some 51, .ext (.t 44) 1, none⟩,
      ⟨some 11, .tk 50, none⟩,
      ⟨some 12, .cp (.t 51), none⟩]) (
  .seq (.reg [⟨some 53, .cp (.t 0), none⟩,
      ⟨some 54, .ia 1 (some 2) (.t 5) (.c (.int .i64 1)), none⟩,
      ⟨some 55, .ld none (.t 54), none⟩,
      ⟨some 56, .call 73 [.t 53, .t 55], none⟩,
      ⟨some 52, .tk 56, none⟩,
      ⟨some 57, .extt 52 0, none⟩,
      ⟨some 58, .extt 52 1, none⟩,
      ⟨some 13, .tk 57, none⟩,
      ⟨some 14, .tk 58, none⟩]) (
  .seq (.reg [⟨some 60, .cp (.t 0), none⟩,
      ⟨some 61, .ia 1 (some 2) (.t 5) (.c (.int .i64 1)), none⟩,
      ⟨some 62, .ld none (.t 61), none⟩,
      ⟨some 63, .call 74 [.t 60, .t 62], none⟩,
      ⟨some 59, .tk 63, none⟩,
      ⟨some 64, .extt 59 0, none⟩,
      ⟨some 65, .extt 59 1, none⟩,
      ⟨some 15, .tk 64, none⟩,
      ⟨some 16, .tk 65, none⟩]) (
  .seq (.seq (.reg [⟨some 66, .cp (.t 7), none⟩,
      ⟨some 67, .tk 8, none⟩,
      ⟨some 68, .call 64 [.t 66, .t 67], none⟩,
      ⟨some 69, .un .not (.t 68), none⟩,
      ⟨some 70, .cp (.t 69), none⟩,
      ⟨some 71, .cp (.t 9), some (70, false)⟩,
      ⟨some 72, .tk 11, some (70, false)⟩,
      ⟨some 73, .call 64 [.t 71, .t 72], some (70, false)⟩,
      ⟨some 74, .un .not (.t 73), some (70, false)⟩,
      ⟨some 75, .pick (.t 70) (.c (.bool true)) (.t 74), none⟩,
      ⟨some 76, .cp (.t 75), none⟩,
      ⟨some 77, .cp (.t 10), some (76, false)⟩,
      ⟨some 78, .cp (.t 12), some (76, false)⟩,
      ⟨some 79, .bin .neq (.t 77) (.t 78), some (76, false)⟩,
      ⟨some 80, .pick (.t 76) (.c (.bool true)) (.t 79), none⟩,
      ⟨some 81, .cp (.t 80), none⟩,
      ⟨some 82, .cp (.t 13), some (81, false)⟩,
      ⟨some 83, .tk 15, some (81, false)⟩,
      ⟨some 84, .call 64 [.t 82, .t 83], some (81, false)⟩,
      ⟨some 85, .un .not (.t 84), some (81, false)⟩,
      ⟨some 86, .pick (.t 81) (.c (.bool true)) (.t 85), none⟩,
      ⟨some 87, .cp (.t 86), none⟩,
      ⟨some 88, .cp (.t 14), some (87, false)⟩,
      ⟨some 89, .tk 16, some (87, false)⟩,
      ⟨some 90, .call 64 [.t 88, .t 89], some (87, false)⟩,
      ⟨some 91, .un .not (.t 90), some (87, false)⟩,
      ⟨some 92, .pick (.t 87) (.c (.bool true)) (.t 91), none⟩,
      ⟨some 93, .cp (.t 92), none⟩,
      ⟨some 94, .tk 13, some (93, false)⟩,
      ⟨some 95, .len (.t 94), some (93, false)⟩,
      ⟨some 96, .tk 14, some (93, false)⟩,
      ⟨some 97, .len (.t 96), some (93, false)⟩,
      ⟨some 98, .bin .add (.t 95) (.t 97), some (93, false)⟩,
      ⟨some 99, .cp (.t 0), some (93, false)⟩,
      ⟨some 100, .len (.t 99), some (93, false)⟩,
      ⟨some 101, .bin .neq (.t 98) (.t 100), some (93, false)⟩,
      ⟨some 102, .pick (.t 93) (.c (.bool true)) (.t 101), none⟩,
      ⟨some 103, .cp (.t 102), none⟩,
      ⟨some 104, .tk 9, some (103, false)⟩,
      ⟨some 105, .len (.t 104), some (103, false)⟩,
      ⟨some 106, .cp (.t 10), some (103, false)⟩,
      ⟨some 107, .bin .add (.t 105) (.t 106), some (103, false)⟩,
      ⟨some 108, .cp (.t 0), some (103, false)⟩,
      ⟨some 109, .len (.t 108), some (103, false)⟩,
      ⟨some 110, .bin .neq (.t 107) (.t 109), some (103, false)⟩,
      ⟨some 111, .pick (.t 103) (.c (.bool true)) (.t 110), none⟩]) (
  .cond (.t 111) (
    .seq (.reg [⟨some 6, .cp (.c (.bool false)), none⟩]) (
    .ret)) (
    .skip))) (
  .seq (.seq (.reg [⟨some 112, .cp (.t 0), none⟩,
      ⟨some 113, .len (.t 112), none⟩,
      ⟨some 114, .cp (.c (.int .i64 0)), none⟩]) (
  .block 0 (
    .loop [false, false, false, false, false, false, true, false, false, false, false, false, false, false, false, false, false, false, true, true, true, true, false, false, false, false, false, false, false, false, false, false, false, false, false, false, false, false, false, false, false, false, false, false, false, false, false, false, false, false, false, false, false, false, false, false, false, false, false, false, false, false, false, false, false, false, false, false, false, false, false, false, false, false, false, false, false, false, false, false, false, false, false, false, false, false, false, false, false, false, false, false, false, false, false, false, false, false, false, false, false, false, false, false, false, false, false, false, false, false, false, false, false, false, false, true, true, true, true, true, true, true, true, true, true, true, true, true, true, true, true, true, true, true, true, true, true, true, true, true, true, true, true, true, true, true, true, true, true, true] [1] a12_l0))) (
  .seq (.reg [⟨some 151, .cp (.t 0), none⟩,
      ⟨some 152, .cp (.t 1), none⟩,
      ⟨some 153, .call 71 [.t 151, .t 152, .c (.int .i64 0)], none⟩,
      ⟨some 150, .tk 153, none⟩,
      ⟨some 154, .extt 150 0, none⟩,
      ⟨some 155, .ext (.t 150) 1, none⟩,
      ⟨some 22, .tk 154, none⟩,
      ⟨some 23, .cp (.t 155), none⟩]) (
  .seq (.reg [⟨some 157, .cp (.t 0), none⟩,
      ⟨some 158, .cp (.t 1), none⟩,
      ⟨some 159, .call 71 [.t 157, .t 158, .c (.int .i64 8)], none⟩,
      ⟨some 156, .tk 159, none⟩,
      ⟨some 160, .extt 156 0, none⟩,
      ⟨some 161, .ext (.t 156) 1, none⟩,
      ⟨some 24, .tk 160, none⟩,
      ⟨some 25, .cp (.t 161), none⟩]) (
  .seq (.reg [⟨some 162, .tk 7, none⟩,
      ⟨some 163, .len (.t 162), none⟩,
      ⟨some 164, .cp (.t 0), none⟩,
      ⟨some 165, .len (.t 164), none⟩,
      ⟨some 166, .bin .eql (.t 163) (.t 165), none⟩,
      ⟨some 167, .cp (.t 166), none⟩,
      ⟨some 168, .cp (.t 23), some (167, true)⟩,
      ⟨some 169, .bin .eql (.t 168) (.c (.int .i64 0)), some (167, true)⟩,
      ⟨some 170, .pick (.t 167) (.t 169) (.c (.bool false)), none⟩,
      ⟨some 171, .cp (.t 170), none⟩,
      ⟨some 172, .cp (.t 25), some (171, true)⟩,
      ⟨some 173, .tk 0, some (171, true)⟩,
      ⟨some 174, .len (.t 173), some (171, true)⟩,
      ⟨some 175, .bin .eql (.t 172) (.t 174), some (171, true)⟩,
      ⟨some 176, .pick (.t 171) (.t 175) (.c (.bool false)), none⟩,
      ⟨some 177, .cp (.t 176), none⟩,
      ⟨some 178, .call 56 [], some (177, true)⟩,
      ⟨some 179, .pick (.t 177) (.t 178) (.c (.bool false)), none⟩,
      ⟨some 6, .cp (.t 179), none⟩]) (
  .ret))))))))))))
def af12 : AFn := ⟨180, 2, [.t 6], a12⟩
theorem ak12 : chkF Try.prog 12 af12 = true := by kernel_rfl

-- f56 fingerpost/fingerpostlaw40.awake  boxes 2 notes []
def a56 : AC := .seq (.reg [⟨some 0, .cp (.c (.bool false)), none⟩]) (
  .seq (.reg [⟨some 16, .bld [.int .i64 0, .int .i64 0, .str []] [(0, 1, .c (.int .i64 1)), (1, 1, .c (.int .i64 2)), (2, 1, .c (.str [97]))], none⟩,
      ⟨some 17, .bld [.int .i64 0, .int .i64 0, .str []] [(0, 1, .c (.int .i64 2)), (1, 1, .c (.int .i64 1)), (2, 1, .c (.str [98]))], none⟩,
      ⟨some 18, .bs 3 [.t 16, .t 17], none⟩,
      ⟨some 19, .call 57 [.c (.sl .own 3 []), .t 18], none⟩,
      ⟨some 15, .tk 19, none⟩,
      ⟨some 20, .extt 15 0, none⟩,
      ⟨some 21, .ext (.t 15) 1, none⟩,
      ⟨some 1, .tk 20, none⟩,
      ⟨some 2, .cp (.t 21), none⟩]) (
  .seq (.reg [⟨some 23, .cp (.t 1), none⟩,
      ⟨some 24, .call 59 [.t 23, .c (.int .i64 0)], none⟩,
      ⟨some 22, .tk 24, none⟩,
      ⟨some 25, .extt 22 0, none⟩,
      ⟨some 26, .ext (.t 22) 1, none⟩,
      ⟨some 27, .ext (.t 22) 2, none⟩,
      ⟨some 4, .alloc 0 3 [.int .i64 0, .int .i64 0, .str []], none⟩,
      ⟨some 3, .tk 25, none⟩,
      ⟨none, .st 3 (.t 4) (.t 26), none⟩,
      ⟨some 5, .cp (.t 27), none⟩]) (
  .seq (.reg [⟨some 29, .cp (.t 1), none⟩,
      ⟨some 30, .call 61 [.t 29, .c (.int .i64 1)], none⟩,
      ⟨some 28, .tk 30, none⟩,
      ⟨some 31, .extt 28 0, none⟩,
      ⟨some 32, .ext (.t 28) 1, none⟩,
      ⟨some 6, .tk 31, none⟩,
      ⟨some 7, .cp (.t 32), none⟩]) (
  .seq (.reg [⟨some 34, .cp (.t 1), none⟩,
      ⟨some 35, .call 61 [.t 34, .c (.int .i64 2)], none⟩,
      ⟨some 33, .tk 35, none⟩,
      ⟨some 36, .extt 33 0, none⟩,
      ⟨some 37, .ext (.t 33) 1, none⟩,
      ⟨some 8, .tk 36, none⟩,
      ⟨some 9, .cp (.t 37), none⟩]) (
  .seq (.reg [⟨some 39, .cp (.t 1), none⟩,
      ⟨some 40, .call 59 [.t 39, .c (.int .i64 (-1))], none⟩,
      ⟨some 38, .tk 40, none⟩,
      ⟨some 41, .extt 38 0, none⟩,
      ⟨some 42, .ext (.t 38) 1, none⟩,
      ⟨some 43, .ext (.t 38) 2, none⟩,
      ⟨some 11, .alloc 1 3 [.int .i64 0, .int .i64 0, .str []], none⟩,
      ⟨some 10, .tk 41, none⟩,
      ⟨none, .st 3 (.t 11) (.t 42), none⟩,
      ⟨some 12, .cp (.t 43), none⟩]) (
  .seq (.reg [⟨some 45, .mk 3 32 [.int .i64 0, .int .i64 0, .str []] (.c (.int .i64 600)) (.c (.int .i64 600)), none⟩,
      ⟨some 46, .bld [.int .i64 0, .int .i64 0, .str []] [], none⟩,
      ⟨some 47, .bs 3 [.t 46], none⟩,
      ⟨some 48, .call 57 [.t 45, .t 47], none⟩,
      ⟨some 44, .tk 48, none⟩,
      ⟨some 49, .extt 44 0, none⟩,
      ⟨some 50, .ext (.t 44) 1, none⟩,
      ⟨some 13, .tk 49, none⟩,
      ⟨some 14, .cp (.t 50), none⟩]) (
  .seq (.seq (.reg [⟨some 51, .cp (.t 3), none⟩,
      ⟨some 52, .len (.t 51), none⟩,
      ⟨some 53, .bin .neq (.t 52) (.c (.int .i64 1)), none⟩,
      ⟨some 54, .cp (.t 53), none⟩,
      ⟨some 55, .cp (.t 6), some (54, false)⟩,
      ⟨some 56, .len (.t 55), some (54, false)⟩,
      ⟨some 57, .bin .neq (.t 56) (.c (.int .i64 3)), some (54, false)⟩,
      ⟨some 58, .pick (.t 54) (.c (.bool true)) (.t 57), none⟩]) (
  .cond (.t 58) (
    .seq (.reg [⟨some 0, .cp (.c (.bool false)), none⟩]) (
    .ret)) (
    .skip))) (
  .seq (.reg [⟨some 59, .cp (.t 2), none⟩,
      ⟨some 60, .bin .eql (.t 59) (.c (.int .i64 0)), none⟩,
      ⟨some 61, .cp (.t 60), none⟩,
      ⟨some 62, .cp (.t 5), some (61, true)⟩,
      ⟨some 63, .bin .eql (.t 62) (.c (.int .i64 0)), some (61, true)⟩,
      ⟨some 64, .pick (.t 61) (.t 63) (.c (.bool false)), none⟩,
      ⟨some 65, .cp (.t 64), none⟩,
      ⟨some 66, .fa 2 (.t 4), some (65, true)⟩,
      ⟨some 67, .ld none (.t 66), some (65, true)⟩,
      ⟨some 68, .bin .eql (.t 67) (.c (.str [97])), some (65, true)⟩,
      ⟨some 69, .pick (.t 65) (.t 68) (.c (.bool false)), none⟩,
      ⟨some 70, .cp (.t 69), none⟩,
      ⟨some 71, .cp (.t 3), some (70, true)⟩,
      ⟨some 72, .iaE 3 (.t 71) (.c (.int .i64 0)), some (70, true)⟩,
      ⟨some 73, .fa 2 (.t 72), some (70, true)⟩,
      ⟨some 74, .ld none (.t 73), some (70, true)⟩,
      ⟨some 75, .bin .eql (.t 74) (.c (.str [98])), some (70, true)⟩,
      ⟨some 76, .pick (.t 70) (.t 75) (.c (.bool false)), none⟩,
      ⟨some 77, .cp (.t 76), none⟩,
      ⟨some 78, .cp (.t 7), some (77, true)⟩,
      ⟨some 79, .bin .eql (.t 78) (.c (.int .i64 0)), some (77, true)⟩,
      ⟨some 80, .pick (.t 77) (.t 79) (.c (.bool false)), none⟩,
      ⟨some 81, .cp (.t 80), none⟩,
      ⟨some 82, .tk 6, some (81, true)⟩,
      ⟨some 83, .iaE 3 (.t 82) (.c (.int .i64 2)), some (81, true)⟩,
      ⟨some 84, .fa 2 (.t 83), some (81, true)⟩,
      ⟨some 85, .ld none (.t 84), some (81, true)⟩,
      ⟨some 86, .bin .eql (.t 85) (.c (.str [98])), some (81, true)⟩,
      ⟨some 87, .pick (.t 81) (.t 86) (.c (.bool false)), none⟩,
      ⟨some 88, .cp (.t 87), none⟩,
      ⟨some 89, .cp (.t 9), some (88, true)⟩,
      ⟨some 90, .bin .eql (.t 89) (.c (.int .i64 9)), some (88, true)⟩,
      ⟨some 91, .pick (.t 88) (.t 90) (.c (.bool false)), none⟩,
      ⟨some 92, .cp (.t 91), none⟩,
      ⟨some 93, .cp (.t 12), some (92, true)⟩,
      ⟨some 94, .bin .eql (.t 93) (.c (.int .i64 9)), some (92, true)⟩,
      ⟨some 95, .pick (.t 92) (.t 94) (.c (.bool false)), none⟩,
      ⟨some 96, .cp (.t 95), none⟩,
      ⟨some 97, .cp (.t 14), some (96, true)⟩,
      ⟨some 98, .bin .eql (.t 97) (.c (.int .i64 8)), some (96, true)⟩,
      ⟨some 99, .pick (.t 96) (.t 98) (.c (.bool false)), none⟩,
      ⟨some 100, .cp (.t 99), none⟩,
      ⟨some 101, .cp (.t 1), some (100, true)⟩,
      ⟨some 102, .call 65 [.t 101, .c (.int .i64 2), .c (.int .i64 1)], some (100, true)⟩,
      ⟨some 103, .bin .eql (.t 102) (.c (.int .i64 2)), some (100, true)⟩,
      ⟨some 104, .pick (.t 100) (.t 103) (.c (.bool false)), none⟩,
      ⟨some 105, .cp (.t 104), none⟩,
      ⟨some 106, .cp (.t 1), some (105, true)⟩,
      ⟨some 107, .call 65 [.t 106, .c (.int .i64 2), .c (.int .i64 3)], some (105, true)⟩,
      ⟨some 108, .bin .eql (.t 107) (.c (.int .i64 0)), some (105, true)⟩,
      ⟨some 109, .pick (.t 105) (.t 108) (.c (.bool false)), none⟩,
      ⟨some 110, .cp (.t 109), none⟩,
      ⟨some 111, .call 67 [], some (110, true)⟩,
      ⟨some 112, .bin .eql (.t 111) (.c (.int .i64 600)), some (110, true)⟩,
      ⟨some 113, .pick (.t 110) (.t 112) (.c (.bool false)), none⟩,
      ⟨some 114, .cp (.t 113), none⟩,
      ⟨some 115, .cp (.t 1), some (114, true)⟩,
      ⟨some 116, .cp (.t 1), some (114, true)⟩,
      ⟨some 117, .call 64 [.t 115, .t 116], some (114, true)⟩,
      ⟨some 118, .pick (.t 114) (.t 117) (.c (.bool false)), none⟩,
      ⟨some 119, .cp (.t 118), none⟩,
      ⟨some 120, .tk 1, some (119, true)⟩,
      ⟨some 121, .tk 3, some (119, true)⟩,
      ⟨some 122, .call 64 [.t 120, .t 121], some (119, true)⟩,
      ⟨some 123, .un .not (.t 122), some (119, true)⟩,
      ⟨some 124, .pick (.t 119) (.t 123) (.c (.bool false)), none⟩,
      ⟨some 0, .cp (.t 124), none⟩]) (
  .ret)))))))))
def af56 : AFn := ⟨125, 2, [.t 0], a56⟩
theorem ak56 : chkF Try.prog 56 af56 = true := by kernel_rfl

-- f57 fingerpost/air.Put  boxes 0 notes []
def a57 : AC := .seq (.reg [⟨some 4, .cp (.c (.sl .own 3 [])), none⟩,
      ⟨some 5, .cp (.c (.int .i64 0)), none⟩]) (
  .seq (.seq (.reg [⟨some 6, .cp (.t 1), none⟩,
      ⟨some 7, .len (.t 6), none⟩,
      ⟨some 8, .bin .gtr (.t 7) (.c (.int .i64 0)), none⟩,
      ⟨some 9, .cp (.t 8), none⟩,
      ⟨some 10, .cp (.t 1), some (9, true)⟩,
      ⟨some 11, .len (.t 10), some (9, true)⟩,
      ⟨some 12, .cp (.t 0), some (9, true)⟩,
      ⟨some 13, .len (.t 12), some (9, true)⟩,
      ⟨some 14, .bin .sub (.c (.int .i64 600)) (.t 13), some (9, true)⟩,
      ⟨some 15, .bin .gtr (.t 11) (.t 14), some (9, true)⟩,
      ⟨some 16, .pick (.t 9) (.t 15) (.c (.bool false)), none⟩]) (
  .cond (.t 16) (
    .seq (.reg [⟨some 17, .tk 0, none⟩,
        ⟨some 4, .tk 17, none⟩,
        ⟨some 5, .cp (.c (.int .i64 8)), none⟩]) (
    .ret)) (
    .skip))) (
  .seq (.reg [⟨some 18, .tk 0, none⟩,
      ⟨some 19, .tk 1, none⟩,
      ⟨some 20, .call 107 [.t 18, .t 19], none⟩,
      ⟨some 4, .tk 20, none⟩,
      ⟨some 5, .cp (.c (.int .i64 0)), none⟩]) (
  .ret)))
def af57 : AFn := ⟨21, 0, [.t 4, .t 5], a57⟩
theorem ak57 : chkF Try.prog 57 af57 = true := by kernel_rfl

-- f58 fingerpost/fingerpostref40.Put  boxes 0 notes []
def a58 : AC := .seq (.reg [⟨some 4, .cp (.c (.sl .own 3 [])), none⟩,
      ⟨some 5, .cp (.c (.int .i64 0)), none⟩]) (
  .seq (.seq (.reg [⟨some 6, .cp (.t 1), none⟩,
      ⟨some 7, .len (.t 6), none⟩,
      ⟨some 8, .call 68 [], none⟩,
      ⟨some 9, .cp (.t 0), none⟩,
      ⟨some 10, .len (.t 9), none⟩,
      ⟨some 11, .call 68 [], none⟩,
      ⟨some 12, .mm false [.t 10, .t 11], none⟩,
      ⟨some 13, .bin .sub (.t 8) (.t 12), none⟩,
      ⟨some 14, .bin .gtr (.t 7) (.t 13), none⟩]) (
  .cond (.t 14) (
    .seq (.reg [⟨some 15, .tk 0, none⟩,
        ⟨some 4, .tk 15, none⟩,
        ⟨some 5, .cp (.c (.int .i64 8)), none⟩]) (
    .ret)) (
    .skip))) (
  .seq (.reg [⟨some 16, .bs 3 [], none⟩,
      ⟨some 17, .tk 0, none⟩,
      ⟨some 18, .app 3 32 (.t 16) (.t 17), none⟩,
      ⟨some 19, .tk 1, none⟩,
      ⟨some 20, .app 3 32 (.t 18) (.t 19), none⟩,
      ⟨some 4, .tk 20, none⟩,
      ⟨some 5, .cp (.c (.int .i64 0)), none⟩]) (
  .ret)))
def af58 : AFn := ⟨21, 0, [.t 4, .t 5], a58⟩
theorem ak58 : chkF Try.prog 58 af58 = true := by kernel_rfl

-- f59 fingerpost/air.Take  boxes 1 notes []
def a59 : AC := .seq (.reg [⟨some 4, .cp (.c (.sl .own 3 [])), none⟩,
      ⟨some 5, .alloc 0 3 [.int .i64 0, .int .i64 0, .str []], none⟩,
      ⟨some 6, .cp (.c (.int .i64 0)), none⟩]) (
  .seq (.seq (.reg [⟨some 7, .cp (.t 1), none⟩,
      ⟨some 8, .bin .lss (.t 7) (.c (.int .i64 0)), none⟩,
      ⟨some 9, .cp (.t 8), none⟩,
      ⟨some 10, .cp (.t 1), some (9, false)⟩,
      ⟨some 11, .cp (.t 0), some (9, false)⟩,
      ⟨some 12, .len (.t 11), some (9, false)⟩,
      ⟨some 13, .bin .geq (.t 10) (.t 12), some (9, false)⟩,
      ⟨some 14, .pick (.t 9) (.c (.bool true)) (.t 13), none⟩]) (
  .cond (.t 14) (
    .seq (.reg [⟨some 15, .tk 0, none⟩,
        ⟨some 16, .bld [.int .i64 0, .int .i64 0, .str []] [], none⟩,
        ⟨some 4, .tk 15, none⟩,
        ⟨none, .st 3 (.t 5) (.t 16), none⟩,
        ⟨some 6, .cp (.c (.int .i64 9)), none⟩]) (
    .ret)) (
    .skip))) (
  .seq (.drw [⟨some 17, .cp (.t 0), none⟩,
      ⟨some 18, .cp (.t 1), none⟩,
      ⟨some 19, .cp (.t 1), none⟩,
      ⟨some 20, .sub 3 (.t 17) none (some (.t 18)) (some (.t 19)), none⟩,
      ⟨some 21, .cp (.t 0), none⟩,
      ⟨some 22, .cp (.t 1), none⟩,
      ⟨some 23, .bin .add (.t 22) (.c (.int .i64 1)), none⟩,
      ⟨some 24, .sub 3 (.t 21) (some (.t 23)) none none, none⟩,
      ⟨some 25, .call 107 [.t 20, .t 24], none⟩,
      ⟨some 26, .cp (.t 0), none⟩,
      ⟨some 27, .cp (.t 1), none⟩,
      ⟨some 28, .iaE 3 (.t 26) (.t 27), none⟩,
      ⟨some 29, .ld (some 3) (.t 28), none⟩,
      ⟨some 4, .tk 25, none⟩,
      ⟨none, .st 3 (.t 5) (.t 29), none⟩,
      ⟨some 6, .cp (.c (.int .i64 0)), none⟩] []) (
  .ret)))
def af59 : AFn := ⟨30, 1, [.t 4, .c 5 (some 3), .t 6], a59⟩
theorem ak59 : chkF Try.prog 59 af59 = true := by kernel_rfl

-- f60 fingerpost/fingerpostref40.Take  boxes 1 notes []
def a60 : AC := .seq (.reg [⟨some 4, .cp (.c (.sl .own 3 [])), none⟩,
      ⟨some 5, .alloc 0 3 [.int .i64 0, .int .i64 0, .str []], none⟩,
      ⟨some 6, .cp (.c (.int .i64 0)), none⟩]) (
  .seq (.seq (.reg [⟨some 7, .cp (.t 1), none⟩,
      ⟨some 8, .bin .lss (.t 7) (.c (.int .i64 0)), none⟩,
      ⟨some 9, .cp (.t 8), none⟩,
      ⟨some 10, .cp (.t 1), some (9, false)⟩,
      ⟨some 11, .cp (.t 0), some (9, false)⟩,
      ⟨some 12, .len (.t 11), some (9, false)⟩,
      ⟨some 13, .bin .geq (.t 10) (.t 12), some (9, false)⟩,
      ⟨some 14, .pick (.t 9) (.c (.bool true)) (.t 13), none⟩]) (
  .cond (.t 14) (
    .seq (.reg [⟨some 15, .tk 0, none⟩,
        ⟨some 16, .bld [.int .i64 0, .int .i64 0, .str []] [], none⟩,
        ⟨some 4, .tk 15, none⟩,
        ⟨none, .st 3 (.t 5) (.t 16), none⟩,
        ⟨some 6, .cp (.c (.int .i64 9)), none⟩]) (
    .ret)) (
    .skip))) (
  .seq (.drw [⟨some 17, .bs 3 [], none⟩,
      ⟨some 18, .cp (.t 0), none⟩,
      ⟨some 19, .cp (.t 1), none⟩,
      ⟨some 20, .sub 3 (.t 18) none (some (.t 19)) none, none⟩,
      ⟨some 21, .app 3 32 (.t 17) (.t 20), none⟩,
      ⟨some 22, .cp (.t 0), none⟩,
      ⟨some 23, .cp (.t 1), none⟩,
      ⟨some 24, .bin .add (.t 23) (.c (.int .i64 1)), none⟩,
      ⟨some 25, .sub 3 (.t 22) (some (.t 24)) none none, none⟩,
      ⟨some 26, .app 3 32 (.t 21) (.t 25), none⟩,
      ⟨some 27, .cp (.t 0), none⟩,
      ⟨some 28, .cp (.t 1), none⟩,
      ⟨some 29, .iaE 3 (.t 27) (.t 28), none⟩,
      ⟨some 30, .ld (some 3) (.t 29), none⟩,
      ⟨some 4, .tk 26, none⟩,
      ⟨none, .st 3 (.t 5) (.t 30), none⟩,
      ⟨some 6, .cp (.c (.int .i64 0)), none⟩] []) (
  .ret)))
def af60 : AFn := ⟨31, 1, [.t 4, .c 5 (some 3), .t 6], a60⟩
theorem ak60 : chkF Try.prog 60 af60 = true := by kernel_rfl

-- f61 fingerpost/air.Twice  boxes 0 notes []
def a61 : AC := .seq (.reg [⟨some 4, .cp (.c (.sl .own 3 [])), none⟩,
      ⟨some 5, .cp (.c (.int .i64 0)), none⟩]) (
  .seq (.seq (.reg [⟨some 6, .cp (.t 1), none⟩,
      ⟨some 7, .bin .lss (.t 6) (.c (.int .i64 0)), none⟩,
      ⟨some 8, .cp (.t 7), none⟩,
      ⟨some 9, .cp (.t 1), some (8, false)⟩,
      ⟨some 10, .cp (.t 0), some (8, false)⟩,
      ⟨some 11, .len (.t 10), some (8, false)⟩,
      ⟨some 12, .bin .geq (.t 9) (.t 11), some (8, false)⟩,
      ⟨some 13, .pick (.t 8) (.c (.bool true)) (.t 12), none⟩]) (
  .cond (.t 13) (
    .seq (.reg [⟨some 14, .tk 0, none⟩,
        ⟨some 4, .tk 14, none⟩,
        ⟨some 5, .cp (.c (.int .i64 9)), none⟩]) (
    .ret)) (
    .skip))) (
  .seq (.reg [⟨some 15, .cp (.t 0), none⟩,
      ⟨some 16, .tk 0, none⟩,
      ⟨some 17, .cp (.t 1), none⟩,
      ⟨some 18, .iaE 3 (.t 16) (.t 17), none⟩,
      ⟨some 19, .ld (some 3) (.t 18), none⟩,
      ⟨some 20, .bs 3 [.t 19], none⟩,
      ⟨some 21, .call 57 [.t 15, .t 20], none⟩,
      ⟨some 22, .extt 21 0, none⟩,
      ⟨some 23, .ext (.t 21) 1, none⟩,
      ⟨some 4, .tk 22, none⟩,
      ⟨some 5, .cp (.t 23), none⟩]) (
  .ret)))
def af61 : AFn := ⟨24, 0, [.t 4, .t 5], a61⟩
theorem ak61 : chkF Try.prog 61 af61 = true := by kernel_rfl

-- f62 fingerpost/fingerpostref40.Twice  boxes 0 notes []
def a62 : AC := .seq (.reg [⟨some 4, .cp (.c (.sl .own 3 [])), none⟩,
      ⟨some 5, .cp (.c (.int .i64 0)), none⟩]) (
  .seq (.seq (.reg [⟨some 6, .cp (.t 1), none⟩,
      ⟨some 7, .bin .lss (.t 6) (.c (.int .i64 0)), none⟩,
      ⟨some 8, .cp (.t 7), none⟩,
      ⟨some 9, .cp (.t 1), some (8, false)⟩,
      ⟨some 10, .cp (.t 0), some (8, false)⟩,
      ⟨some 11, .len (.t 10), some (8, false)⟩,
      ⟨some 12, .bin .geq (.t 9) (.t 11), some (8, false)⟩,
      ⟨some 13, .pick (.t 8) (.c (.bool true)) (.t 12), none⟩]) (
  .cond (.t 13) (
    .seq (.reg [⟨some 14, .tk 0, none⟩,
        ⟨some 4, .tk 14, none⟩,
        ⟨some 5, .cp (.c (.int .i64 9)), none⟩]) (
    .ret)) (
    .skip))) (
  .seq (.reg [⟨some 15, .cp (.t 0), none⟩,
      ⟨some 16, .tk 0, none⟩,
      ⟨some 17, .cp (.t 1), none⟩,
      ⟨some 18, .iaE 3 (.t 16) (.t 17), none⟩,
      ⟨some 19, .ld (some 3) (.t 18), none⟩,
      ⟨some 20, .bs 3 [.t 19], none⟩,
      ⟨some 21, .call 58 [.t 15, .t 20], none⟩,
      ⟨some 22, .extt 21 0, none⟩,
      ⟨some 23, .ext (.t 21) 1, none⟩,
      ⟨some 4, .tk 22, none⟩,
      ⟨some 5, .cp (.t 23), none⟩]) (
  .ret)))
def af62 : AFn := ⟨24, 0, [.t 4, .t 5], a62⟩
theorem ak62 : chkF Try.prog 62 af62 = true := by kernel_rfl

-- f63 fingerpost/fingerpostref40.Same  boxes 0 notes []
def a63_l0 : AC := .seq (.reg [⟨some 14, .bin .lss (.t 13) (.t 12), none⟩]) (
  .seq (.cond (.t 14) (
    .skip) (
    .exit 0)) (
  .seq (.block 1 (
    .seq (.reg [⟨some 15, .cp (.t 13), none⟩,
        ⟨some 5, .cp (.t 15), none⟩]) (
    .seq (.drw [⟨some 16, .cp (.t 0), none⟩,
        ⟨some 17, .cp (.t 5), none⟩,
        ⟨some 18, .iaE 3 (.t 16) (.t 17), none⟩,
        ⟨some 19, .ld (some 3) (.t 18), none⟩,
        ⟨some 20, .cp (.t 1), none⟩,
        ⟨some 21, .cp (.t 5), none⟩,
        ⟨some 22, .iaE 3 (.t 20) (.t 21), none⟩,
        ⟨some 23, .ld (some 3) (.t 22), none⟩,
        ⟨some 24, .eqA true [.i, .i, .s] (.t 19) (.t 23), none⟩] []) (
    .cond (.t 24) (
      .seq (.reg [⟨some 4, .cp (.c (.bool false)), none⟩]) (
      .ret)) (
      .skip))))) (
  .reg [⟨some 25, .bin .add (.t 13) (.c (.int .i64 1)), none⟩,
      ⟨some 13, .cp (.t 25), none⟩])))
def a63 : AC := .seq (.reg [⟨some 4, .cp (.c (.bool false)), none⟩]) (
  .seq (.seq (.reg [⟨some 6, .cp (.t 0), none⟩,
      ⟨some 7, .len (.t 6), none⟩,
      ⟨some 8, .cp (.t 1), none⟩,
      ⟨some 9, .len (.t 8), none⟩,
      ⟨some 10, .bin .neq (.t 7) (.t 9), none⟩]) (
  .cond (.t 10) (
    .seq (.reg [⟨some 4, .cp (.c (.bool false)), none⟩]) (
    .ret)) (
    .skip))) (
  .seq (.seq (.reg [⟨some 11, .cp (.t 0), none⟩,
      ⟨some 12, .len (.t 11), none⟩,
      ⟨some 13, .cp (.c (.int .i64 0)), none⟩]) (
  .block 0 (
    .loop [false, false, false, false, true, true, false, false, false, false, false, false, false, false, true, true, true, true, true, true, true, true, true, true, true, true] [] a63_l0))) (
  .seq (.reg [⟨some 4, .cp (.c (.bool true)), none⟩]) (
  .ret))))
def af63 : AFn := ⟨26, 0, [.t 4], a63⟩
theorem ak63 : chkF Try.prog 63 af63 = true := by kernel_rfl

-- f64 fingerpost/air.Same  boxes 0 notes []
def a64 : AC := .seq (.reg [⟨some 4, .cp (.c (.bool false)), none⟩]) (
  .seq (.reg [⟨some 5, .tk 0, none⟩,
      ⟨some 6, .tk 1, none⟩,
      ⟨some 7, .call 108 [.t 5, .t 6], none⟩,
      ⟨some 4, .cp (.t 7), none⟩]) (
  .ret))
def af64 : AFn := ⟨8, 0, [.t 4], a64⟩
theorem ak64 : chkF Try.prog 64 af64 = true := by kernel_rfl

-- f65 fingerpost/air.Between  boxes 1 notes []
def a65_l0 : AC := .seq (.reg [⟨some 13, .bin .lss (.t 12) (.t 11), none⟩]) (
  .seq (.cond (.t 13) (
    .skip) (
    .exit 0)) (
  .seq (.block 1 (
    .seq (.reg [⟨some 14, .iaE 3 (.t 10) (.t 12), none⟩,
        ⟨some 15, .ld (some 3) (.t 14), none⟩,
        ⟨some 9, .alloc 0 3 [.int .i64 0, .int .i64 0, .str []], none⟩,
        ⟨none, .st 3 (.t 9) (.t 15), none⟩]) (
    .seq (.reg [⟨some 16, .fa 0 (.t 9), none⟩,
        ⟨some 17, .ld none (.t 16), none⟩,
        ⟨some 18, .cp (.t 1), none⟩,
        ⟨some 19, .bin .eql (.t 17) (.t 18), none⟩,
        ⟨some 20, .cp (.t 19), none⟩,
        ⟨some 21, .fa 1 (.t 9), some (20, true)⟩,
        ⟨some 22, .ld none (.t 21), some (20, true)⟩,
        ⟨some 23, .cp (.t 2), some (20, true)⟩,
        ⟨some 24, .bin .eql (.t 22) (.t 23), some (20, true)⟩,
        ⟨some 25, .pick (.t 20) (.t 24) (.c (.bool false)), none⟩,
        ⟨some 26, .cp (.t 25), none⟩,
        ⟨some 27, .fa 0 (.t 9), some (26, false)⟩,
        ⟨some 28, .ld none (.t 27), some (26, false)⟩,
        ⟨some 29, .cp (.t 2), some (26, false)⟩,
        ⟨some 30, .bin .eql (.t 28) (.t 29), some (26, false)⟩,
        ⟨some 31, .cp (.t 30), some (26, false)⟩,
        ⟨some 32, .fa 1 (.t 9), some (31, true)⟩,
        ⟨some 33, .ld none (.t 32), some (31, true)⟩,
        ⟨some 34, .cp (.t 1), some (31, true)⟩,
        ⟨some 35, .bin .eql (.t 33) (.t 34), some (31, true)⟩,
        ⟨some 36, .pick (.t 31) (.t 35) (.c (.bool false)), some (26, false)⟩,
        ⟨some 37, .pick (.t 26) (.c (.bool true)) (.t 36), none⟩]) (
    .cond (.t 37) (
      .reg [⟨some 38, .cp (.t 7), none⟩,
          ⟨some 39, .bin .add (.t 38) (.c (.int .i64 1)), none⟩,
          ⟨some 7, .cp (.t 39), none⟩]) (
      .skip))))) (
  .reg [⟨some 40, .bin .add (.t 12) (.c (.int .i64 1)), none⟩,
      ⟨some 12, .cp (.t 40), none⟩])))
def a65 : AC := .seq (.reg [⟨some 6, .cp (.c (.int .i64 0)), none⟩]) (
  .seq (.reg [⟨some 7, .cp (.c (.int .i64 0)), none⟩]) (
  .seq (.seq (.reg [⟨some 10, .tk 0, none⟩,
      ⟨some 11, .len (.t 10), none⟩,
      ⟨some 12, .cp (.c (.int .i64 0)), none⟩]) (
  .block 0 (
    .loop [false, false, false, false, false, false, false, false, false, true, false, false, false, true, true, true, true, true, true, true, true, true, true, true, true, true, true, true, true, true, true, true, true, true, true, true, true, true, true, true, true] [0] a65_l0))) (
  .seq (.reg [⟨some 41, .cp (.t 7), none⟩,
      ⟨some 6, .cp (.t 41), none⟩]) (
  .ret))))
def af65 : AFn := ⟨42, 1, [.t 6], a65⟩
theorem ak65 : chkF Try.prog 65 af65 = true := by kernel_rfl

-- f66 fingerpost/fingerpostref40.Between  boxes 1 notes []
def a66_l0 : AC := .seq (.reg [⟨some 13, .bin .lss (.t 12) (.t 11), none⟩]) (
  .seq (.cond (.t 13) (
    .skip) (
    .exit 0)) (
  .seq (.block 1 (
    .seq (.reg [⟨some 14, .iaE 3 (.t 10) (.t 12), none⟩,
        ⟨some 15, .ld (some 3) (.t 14), none⟩,
        ⟨some 9, .alloc 0 3 [.int .i64 0, .int .i64 0, .str []], none⟩,
        ⟨none, .st 3 (.t 9) (.t 15), none⟩]) (
    .seq (.reg [⟨some 16, .fa 0 (.t 9), none⟩,
        ⟨some 17, .ld none (.t 16), none⟩,
        ⟨some 18, .cp (.t 1), none⟩,
        ⟨some 19, .bin .eql (.t 17) (.t 18), none⟩,
        ⟨some 20, .cp (.t 19), none⟩,
        ⟨some 21, .fa 1 (.t 9), some (20, true)⟩,
        ⟨some 22, .ld none (.t 21), some (20, true)⟩,
        ⟨some 23, .cp (.t 2), some (20, true)⟩,
        ⟨some 24, .bin .eql (.t 22) (.t 23), some (20, true)⟩,
        ⟨some 25, .pick (.t 20) (.t 24) (.c (.bool false)), none⟩,
        ⟨some 26, .cp (.t 25), none⟩,
        ⟨some 27, .fa 0 (.t 9), some (26, false)⟩,
        ⟨some 28, .ld none (.t 27), some (26, false)⟩,
        ⟨some 29, .cp (.t 2), some (26, false)⟩,
        ⟨some 30, .bin .eql (.t 28) (.t 29), some (26, false)⟩,
        ⟨some 31, .cp (.t 30), some (26, false)⟩,
        ⟨some 32, .fa 1 (.t 9), some (31, true)⟩,
        ⟨some 33, .ld none (.t 32), some (31, true)⟩,
        ⟨some 34, .cp (.t 1), some (31, true)⟩,
        ⟨some 35, .bin .eql (.t 33) (.t 34), some (31, true)⟩,
        ⟨some 36, .pick (.t 31) (.t 35) (.c (.bool false)), some (26, false)⟩,
        ⟨some 37, .pick (.t 26) (.c (.bool true)) (.t 36), none⟩]) (
    .cond (.t 37) (
      .reg [⟨some 38, .cp (.t 7), none⟩,
          ⟨some 39, .bin .add (.t 38) (.c (.int .i64 1)), none⟩,
          ⟨some 7, .cp (.t 39), none⟩]) (
      .skip))))) (
  .reg [⟨some 40, .bin .add (.t 12) (.c (.int .i64 1)), none⟩,
      ⟨some 12, .cp (.t 40), none⟩])))
def a66 : AC := .seq (.reg [⟨some 6, .cp (.c (.int .i64 0)), none⟩]) (
  .seq (.reg [⟨some 7, .cp (.c (.int .i64 0)), none⟩]) (
  .seq (.seq (.reg [⟨some 10, .tk 0, none⟩,
      ⟨some 11, .len (.t 10), none⟩,
      ⟨some 12, .cp (.c (.int .i64 0)), none⟩]) (
  .block 0 (
    .loop [false, false, false, false, false, false, false, false, false, true, false, false, false, true, true, true, true, true, true, true, true, true, true, true, true, true, true, true, true, true, true, true, true, true, true, true, true, true, true, true, true] [0] a66_l0))) (
  .seq (.reg [⟨some 41, .cp (.t 7), none⟩,
      ⟨some 6, .cp (.t 41), none⟩]) (
  .ret))))
def af66 : AFn := ⟨42, 1, [.t 6], a66⟩
theorem ak66 : chkF Try.prog 66 af66 = true := by kernel_rfl

-- f67 fingerpost/air.Most  boxes 0 notes []
def a67 : AC := .seq (.reg [⟨some 0, .cp (.c (.int .i64 0)), none⟩]) (
  .seq (.reg [⟨some 0, .cp (.c (.int .i64 600)), none⟩]) (
  .ret))
def af67 : AFn := ⟨1, 0, [.t 0], a67⟩
theorem ak67 : chkF Try.prog 67 af67 = true := by kernel_rfl

-- f68 fingerpost/fingerpostref40.Most  boxes 0 notes []
def a68 : AC := .seq (.reg [⟨some 0, .cp (.c (.int .i64 0)), none⟩]) (
  .seq (.reg [⟨some 0, .cp (.c (.int .i64 600)), none⟩]) (
  .ret))
def af68 : AFn := ⟨1, 0, [.t 0], a68⟩
theorem ak68 : chkF Try.prog 68 af68 = true := by kernel_rfl

-- f69 fingerpost/air.Mix  boxes 1 notes []
def a69_l0 : AC := .seq (.seq (.reg [⟨some 13, .cp (.t 6), none⟩,
      ⟨some 14, .bin .geq (.t 13) (.c (.int .i64 1)), none⟩]) (
  .cond (.t 14) (
    .skip) (
    .exit 0))) (
  .seq (.block 1 (
    .seq (.reg [⟨some 17, .cp (.t 1), none⟩,
        ⟨some 18, .call 109 [.t 17], none⟩,
        ⟨some 1, .cp (.t 18), none⟩]) (
    .seq (.reg [⟨some 19, .cp (.t 1), none⟩,
        ⟨some 20, .bin .shr (.t 19) (.c (.int .u64 33)), none⟩,
        ⟨some 21, .cp (.t 6), none⟩,
        ⟨some 22, .bin .add (.t 21) (.c (.int .i64 1)), none⟩,
        ⟨some 23, .cv (.int .u64) (.t 22), none⟩,
        ⟨some 24, .bin .rem (.t 20) (.t 23), none⟩,
        ⟨some 25, .cv (.int .i64) (.t 24), none⟩,
        ⟨some 7, .cp (.t 25), none⟩]) (
    .drw [⟨some 26, .cp (.t 5), none⟩,
        ⟨some 27, .cp (.t 6), none⟩,
        ⟨some 28, .cp (.t 5), none⟩,
        ⟨some 29, .cp (.t 7), none⟩,
        ⟨some 30, .cp (.t 5), none⟩,
        ⟨some 31, .cp (.t 7), none⟩,
        ⟨some 32, .ia 3 none (.t 30) (.t 31), none⟩,
        ⟨some 33, .ldr (some 3) (.t 32), none⟩,
        ⟨some 34, .cp (.t 5), none⟩,
        ⟨some 35, .cp (.t 6), none⟩,
        ⟨some 36, .ia 3 none (.t 34) (.t 35), none⟩,
        ⟨some 37, .ldr (some 3) (.t 36), none⟩,
        ⟨some 38, .ia 3 none (.t 26) (.t 27), none⟩,
        ⟨none, .sto 3 (.t 38) (.t 33), none⟩,
        ⟨some 39, .ia 3 none (.t 28) (.t 29), none⟩,
        ⟨none, .sto 3 (.t 39) (.t 37), none⟩] [])))) (
  .reg [⟨some 15, .cp (.t 6), none⟩,
      ⟨some 16, .bin .sub (.t 15) (.c (.int .i64 1)), none⟩,
      ⟨some 6, .cp (.t 16), none⟩]))
def a69 : AC := .seq (.reg [⟨some 4, .cp (.c (.sl .own 3 [])), none⟩]) (
  .seq (.reg [⟨some 8, .tk 0, none⟩,
      ⟨some 9, .callB 0 3 107 [.t 8, .c (.sl .own 3 [])], none⟩,
      ⟨some 5, .cp (.t 9), none⟩]) (
  .seq (.seq (.reg [⟨some 10, .cp (.t 5), none⟩,
      ⟨some 11, .len (.t 10), none⟩,
      ⟨some 12, .bin .sub (.t 11) (.c (.int .i64 1)), none⟩,
      ⟨some 6, .cp (.t 12), none⟩]) (
  .block 0 (
    .loop [false, false, false, false, false, false, false, true, false, false, false, false, false, true, true, true, true, true, true, true, true, true, true, true, true, true, true, true, true, true, true, true, true, true, true, true, true, true, true, true] [] a69_l0))) (
  .seq (.reg [⟨some 40, .cp (.t 5), none⟩,
      ⟨some 4, .cp (.t 40), none⟩]) (
  .frz 0 4 (.ret)))))
def af69 : AFn := ⟨41, 1, [.t 4], a69⟩
theorem ak69 : chkF Try.prog 69 af69 = true := by kernel_rfl

-- f70 fingerpost/fingerpostref40.Mix  boxes 1 notes []
def a70_l0 : AC := .seq (.seq (.reg [⟨some 14, .cp (.t 6), none⟩,
      ⟨some 15, .bin .gtr (.t 14) (.c (.int .i64 0)), none⟩]) (
  .cond (.t 15) (
    .skip) (
    .exit 0))) (
  .seq (.block 1 (
    .seq (.reg [⟨some 18, .cp (.t 1), none⟩,
        ⟨some 19, .call 110 [.t 18], none⟩,
        ⟨some 1, .cp (.t 19), none⟩]) (
    .seq (.reg [⟨some 20, .cp (.t 1), none⟩,
        ⟨some 21, .bin .shr (.t 20) (.c (.int .u64 33)), none⟩,
        ⟨some 22, .cp (.t 6), none⟩,
        ⟨some 23, .bin .add (.t 22) (.c (.int .i64 1)), none⟩,
        ⟨some 24, .cv (.int .u64) (.t 23), none⟩,
        ⟨some 25, .bin .rem (.t 21) (.t 24), none⟩,
        ⟨some 26, .cv (.int .i64) (.t 25), none⟩,
        ⟨some 7, .cp (.t 26), none⟩]) (
    .drw [⟨some 27, .cp (.t 5), none⟩,
        ⟨some 28, .cp (.t 6), none⟩,
        ⟨some 29, .cp (.t 5), none⟩,
        ⟨some 30, .cp (.t 7), none⟩,
        ⟨some 31, .cp (.t 5), none⟩,
        ⟨some 32, .cp (.t 7), none⟩,
        ⟨some 33, .ia 3 none (.t 31) (.t 32), none⟩,
        ⟨some 34, .ldr (some 3) (.t 33), none⟩,
        ⟨some 35, .cp (.t 5), none⟩,
        ⟨some 36, .cp (.t 6), none⟩,
        ⟨some 37, .ia 3 none (.t 35) (.t 36), none⟩,
        ⟨some 38, .ldr (some 3) (.t 37), none⟩,
        ⟨some 39, .ia 3 none (.t 27) (.t 28), none⟩,
        ⟨none, .sto 3 (.t 39) (.t 34), none⟩,
        ⟨some 40, .ia 3 none (.t 29) (.t 30), none⟩,
        ⟨none, .sto 3 (.t 40) (.t 38), none⟩] [])))) (
  .reg [⟨some 16, .cp (.t 6), none⟩,
      ⟨some 17, .bin .sub (.t 16) (.c (.int .i64 1)), none⟩,
      ⟨some 6, .cp (.t 17), none⟩]))
def a70 : AC := .seq (.reg [⟨some 4, .cp (.c (.sl .own 3 [])), none⟩]) (
  .seq (.reg [⟨some 8, .bsc 3, none⟩,
      ⟨some 9, .tk 0, none⟩,
      ⟨some 10, .appB 0 3 32 (some 8) (.t 9), none⟩,
      ⟨some 5, .cp (.t 10), none⟩]) (
  .seq (.seq (.reg [⟨some 11, .cp (.t 5), none⟩,
      ⟨some 12, .len (.t 11), none⟩,
      ⟨some 13, .bin .sub (.t 12) (.c (.int .i64 1)), none⟩,
      ⟨some 6, .cp (.t 13), none⟩]) (
  .block 0 (
    .loop [false, false, false, false, false, false, false, true, false, false, false, false, false, false, true, true, true, true, true, true, true, true, true, true, true, true, true, true, true, true, true, true, true, true, true, true, true, true, true, true, true] [] a70_l0))) (
  .seq (.reg [⟨some 41, .cp (.t 5), none⟩,
      ⟨some 4, .cp (.t 41), none⟩]) (
  .frz 0 4 (.ret)))))
def af70 : AFn := ⟨42, 1, [.t 4], a70⟩
theorem ak70 : chkF Try.prog 70 af70 = true := by kernel_rfl

-- f71 fingerpost/air.Lose  boxes 1 notes []
def a71_l0 : AC := .seq (.reg [⟨some 14, .bin .lss (.t 13) (.t 12), none⟩]) (
  .seq (.cond (.t 14) (
    .skip) (
    .exit 0)) (
  .seq (.block 1 (
    .seq (.reg [⟨some 15, .iaE 3 (.t 11) (.t 13), none⟩,
        ⟨some 16, .ld (some 3) (.t 15), none⟩,
        ⟨some 10, .alloc 0 3 [.int .i64 0, .int .i64 0, .str []], none⟩,
        ⟨none, .st 3 (.t 10) (.t 16), none⟩]) (
    .seq (.reg [⟨some 17, .cp (.t 1), none⟩,
        ⟨some 18, .call 109 [.t 17], none⟩,
        ⟨some 1, .cp (.t 18), none⟩]) (
    .seq (.reg [⟨some 19, .cp (.t 1), none⟩,
        ⟨some 20, .bin .shr (.t 19) (.c (.int .u64 61)), none⟩,
        ⟨some 21, .cv (.int .i64) (.t 20), none⟩,
        ⟨some 22, .cp (.t 2), none⟩,
        ⟨some 23, .bin .geq (.t 21) (.t 22), none⟩]) (
    .cond (.t 23) (
      .reg [⟨some 24, .tk 8, none⟩,
          ⟨some 25, .ld (some 3) (.t 10), none⟩,
          ⟨some 26, .bs 3 [.t 25], none⟩,
          ⟨some 27, .app 3 32 (.t 24) (.t 26), none⟩,
          ⟨some 8, .tk 27, none⟩]) (
      .skip)))))) (
  .reg [⟨some 28, .bin .add (.t 13) (.c (.int .i64 1)), none⟩,
      ⟨some 13, .cp (.t 28), none⟩])))
def a71 : AC := .seq (.reg [⟨some 6, .cp (.c (.sl .own 3 [])), none⟩,
      ⟨some 7, .cp (.c (.int .i64 0)), none⟩]) (
  .seq (.reg [⟨some 8, .cp (.c (.sl .own 3 [])), none⟩]) (
  .seq (.seq (.reg [⟨some 11, .cp (.t 0), none⟩,
      ⟨some 12, .len (.t 11), none⟩,
      ⟨some 13, .cp (.c (.int .i64 0)), none⟩]) (
  .block 0 (
    .loop [false, false, false, false, false, false, false, false, false, false, true, false, false, false, true, true, true, true, true, true, true, true, true, true, true, true, true, true, true] [0] a71_l0))) (
  .seq (.reg [⟨some 29, .cp (.t 8), none⟩,
      ⟨some 30, .tk 0, none⟩,
      ⟨some 31, .len (.t 30), none⟩,
      ⟨some 32, .tk 8, none⟩,
      ⟨some 33, .len (.t 32), none⟩,
      ⟨some 34, .bin .sub (.t 31) (.t 33), none⟩,
      ⟨some 6, .tk 29, none⟩,
      ⟨some 7, .cp (.t 34), none⟩]) (
  .ret))))
def af71 : AFn := ⟨35, 1, [.t 6, .t 7], a71⟩
theorem ak71 : chkF Try.prog 71 af71 = true := by kernel_rfl

-- f72 fingerpost/fingerpostref40.Lose  boxes 1 notes []
def a72_l0 : AC := .seq (.reg [⟨some 14, .bin .lss (.t 13) (.t 12), none⟩]) (
  .seq (.cond (.t 14) (
    .skip) (
    .exit 0)) (
  .seq (.block 1 (
    .seq (.reg [⟨some 15, .iaE 3 (.t 11) (.t 13), none⟩,
        ⟨some 16, .ld (some 3) (.t 15), none⟩,
        ⟨some 10, .alloc 0 3 [.int .i64 0, .int .i64 0, .str []], none⟩,
        ⟨none, .st 3 (.t 10) (.t 16), none⟩]) (
    .seq (.reg [⟨some 17, .cp (.t 1), none⟩,
        ⟨some 18, .call 110 [.t 17], none⟩,
        ⟨some 1, .cp (.t 18), none⟩]) (
    .seq (.reg [⟨some 19, .cp (.t 1), none⟩,
        ⟨some 20, .bin .shr (.t 19) (.c (.int .u64 61)), none⟩,
        ⟨some 21, .cv (.int .i64) (.t 20), none⟩,
        ⟨some 22, .cp (.t 2), none⟩,
        ⟨some 23, .bin .geq (.t 21) (.t 22), none⟩]) (
    .cond (.t 23) (
      .reg [⟨some 24, .tk 8, none⟩,
          ⟨some 25, .ld (some 3) (.t 10), none⟩,
          ⟨some 26, .bs 3 [.t 25], none⟩,
          ⟨some 27, .app 3 32 (.t 24) (.t 26), none⟩,
          ⟨some 8, .tk 27, none⟩]) (
      .skip)))))) (
  .reg [⟨some 28, .bin .add (.t 13) (.c (.int .i64 1)), none⟩,
      ⟨some 13, .cp (.t 28), none⟩])))
def a72 : AC := .seq (.reg [⟨some 6, .cp (.c (.sl .own 3 [])), none⟩,
      ⟨some 7, .cp (.c (.int .i64 0)), none⟩]) (
  .seq (.reg [⟨some 8, .cp (.c (.sl .own 3 [])), none⟩]) (
  .seq (.seq (.reg [⟨some 11, .cp (.t 0), none⟩,
      ⟨some 12, .len (.t 11), none⟩,
      ⟨some 13, .cp (.c (.int .i64 0)), none⟩]) (
  .block 0 (
    .loop [false, false, false, false, false, false, false, false, false, false, true, false, false, false, true, true, true, true, true, true, true, true, true, true, true, true, true, true, true] [0] a72_l0))) (
  .seq (.reg [⟨some 29, .cp (.t 8), none⟩,
      ⟨some 30, .tk 0, none⟩,
      ⟨some 31, .len (.t 30), none⟩,
      ⟨some 32, .tk 8, none⟩,
      ⟨some 33, .len (.t 32), none⟩,
      ⟨some 34, .bin .sub (.t 31) (.t 33), none⟩,
      ⟨some 6, .tk 29, none⟩,
      ⟨some 7, .cp (.t 34), none⟩]) (
  .ret))))
def af72 : AFn := ⟨35, 1, [.t 6, .t 7], a72⟩
theorem ak72 : chkF Try.prog 72 af72 = true := by kernel_rfl

-- f73 fingerpost/air.Split  boxes 1 notes []
def a73_l0 : AC := .seq (.reg [⟨some 13, .bin .lss (.t 12) (.t 11), none⟩]) (
  .seq (.cond (.t 13) (
    .skip) (
    .exit 0)) (
  .seq (.block 1 (
    .seq (.reg [⟨some 14, .iaE 3 (.t 10) (.t 12), none⟩,
        ⟨some 15, .ld (some 3) (.t 14), none⟩,
        ⟨some 9, .alloc 0 3 [.int .i64 0, .int .i64 0, .str []], none⟩,
        ⟨none, .st 3 (.t 9) (.t 15), none⟩]) (
    .seq (.reg [⟨some 16, .fa 1 (.t 9), none⟩,
        ⟨some 17, .ld none (.t 16), none⟩,
        ⟨some 18, .cp (.t 1), none⟩,
        ⟨some 19, .bin .eql (.t 17) (.t 18), none⟩]) (
    .cond (.t 19) (
      .reg [⟨some 20, .tk 6, none⟩,
          ⟨some 21, .ld (some 3) (.t 9), none⟩,
          ⟨some 22, .bs 3 [.t 21], none⟩,
          ⟨some 23, .app 3 32 (.t 20) (.t 22), none⟩,
          ⟨some 6, .tk 23, none⟩]) (
      .reg [⟨some 24, .tk 7, none⟩,
          ⟨some 25, .ld (some 3) (.t 9), none⟩,
          ⟨some 26, .bs 3 [.t 25], none⟩,
          ⟨some 27, .app 3 32 (.t 24) (.t 26), none⟩,
          ⟨some 7, .tk 27, none⟩]))))) (
  .reg [⟨some 28, .bin .add (.t 12) (.c (.int .i64 1)), none⟩,
      ⟨some 12, .cp (.t 28), none⟩])))
def a73 : AC := .seq (.reg [⟨some 4, .cp (.c (.sl .own 3 [])), none⟩,
      ⟨some 5, .cp (.c (.sl .own 3 [])), none⟩]) (
  .seq (.reg [⟨some 6, .cp (.c (.sl .own 3 [])), none⟩,
      ⟨some 7, .cp (.c (.sl .own 3 [])), none⟩]) (
  .seq (.seq (.reg [⟨some 10, .tk 0, none⟩,
      ⟨some 11, .len (.t 10), none⟩,
      ⟨some 12, .cp (.c (.int .i64 0)), none⟩]) (
  .block 0 (
    .loop [false, false, false, false, false, false, false, false, false, true, false, false, false, true, true, true, true, true, true, true, true, true, true, true, true, true, true, true, true] [0] a73_l0))) (
  .seq (.reg [⟨some 29, .tk 6, none⟩,
      ⟨some 30, .tk 7, none⟩,
      ⟨some 4, .tk 29, none⟩,
      ⟨some 5, .tk 30, none⟩]) (
  .ret))))
def af73 : AFn := ⟨31, 1, [.t 4, .t 5], a73⟩
theorem ak73 : chkF Try.prog 73 af73 = true := by kernel_rfl

-- f74 fingerpost/fingerpostref40.Split  boxes 1 notes []
def a74_l0 : AC := .seq (.reg [⟨some 13, .bin .lss (.t 12) (.t 11), none⟩]) (
  .seq (.cond (.t 13) (
    .skip) (
    .exit 0)) (
  .seq (.block 1 (
    .seq (.reg [⟨some 14, .iaE 3 (.t 10) (.t 12), none⟩,
        ⟨some 15, .ld (some 3) (.t 14), none⟩,
        ⟨some 9, .alloc 0 3 [.int .i64 0, .int .i64 0, .str []], none⟩,
        ⟨none, .st 3 (.t 9) (.t 15), none⟩]) (
    .seq (.reg [⟨some 16, .fa 1 (.t 9), none⟩,
        ⟨some 17, .ld none (.t 16), none⟩,
        ⟨some 18, .cp (.t 1), none⟩,
        ⟨some 19, .bin .eql (.t 17) (.t 18), none⟩]) (
    .cond (.t 19) (
      .reg [⟨some 20, .tk 6, none⟩,
          ⟨some 21, .ld (some 3) (.t 9), none⟩,
          ⟨some 22, .bs 3 [.t 21], none⟩,
          ⟨some 23, .app 3 32 (.t 20) (.t 22), none⟩,
          ⟨some 6, .tk 23, none⟩]) (
      .reg [⟨some 24, .tk 7, none⟩,
          ⟨some 25, .ld (some 3) (.t 9), none⟩,
          ⟨some 26, .bs 3 [.t 25], none⟩,
          ⟨some 27, .app 3 32 (.t 24) (.t 26), none⟩,
          ⟨some 7, .tk 27, none⟩]))))) (
  .reg [⟨some 28, .bin .add (.t 12) (.c (.int .i64 1)), none⟩,
      ⟨some 12, .cp (.t 28), none⟩])))
def a74 : AC := .seq (.reg [⟨some 4, .cp (.c (.sl .own 3 [])), none⟩,
      ⟨some 5, .cp (.c (.sl .own 3 [])), none⟩]) (
  .seq (.reg [⟨some 6, .cp (.c (.sl .own 3 [])), none⟩,
      ⟨some 7, .cp (.c (.sl .own 3 [])), none⟩]) (
  .seq (.seq (.reg [⟨some 10, .tk 0, none⟩,
      ⟨some 11, .len (.t 10), none⟩,
      ⟨some 12, .cp (.c (.int .i64 0)), none⟩]) (
  .block 0 (
    .loop [false, false, false, false, false, false, false, false, false, true, false, false, false, true, true, true, true, true, true, true, true, true, true, true, true, true, true, true, true] [0] a74_l0))) (
  .seq (.reg [⟨some 29, .tk 6, none⟩,
      ⟨some 30, .tk 7, none⟩,
      ⟨some 4, .tk 29, none⟩,
      ⟨some 5, .tk 30, none⟩]) (
  .ret))))
def af74 : AFn := ⟨31, 1, [.t 4, .t 5], a74⟩
theorem ak74 : chkF Try.prog 74 af74 = true := by kernel_rfl

-- f107 fingerpost/air.joined  boxes 0 notes []
def a107 : AC := .seq (.reg [⟨some 4, .cp (.c (.sl .own 3 [])), none⟩]) (
  .seq (.reg [⟨some 6, .cp (.t 0), none⟩,
      ⟨some 7, .len (.t 6), none⟩,
      ⟨some 8, .cp (.t 1), none⟩,
      ⟨some 9, .len (.t 8), none⟩,
      ⟨some 10, .bin .add (.t 7) (.t 9), none⟩,
      ⟨some 11, .mk 3 32 [.int .i64 0, .int .i64 0, .str []] (.c (.int .i64 0)) (.t 10), none⟩,
      ⟨some 5, .tk 11, none⟩]) (
  .seq (.reg [⟨some 12, .tk 5, none⟩,
      ⟨some 13, .tk 0, none⟩,
      ⟨some 14, .app 3 32 (.t 12) (.t 13), none⟩,
      ⟨some 5, .tk 14, none⟩]) (
  .seq (.reg [⟨some 15, .tk 5, none⟩,
      ⟨some 16, .tk 1, none⟩,
      ⟨some 17, .app 3 32 (.t 15) (.t 16), none⟩,
      ⟨some 4, .tk 17, none⟩]) (
  .ret))))
def af107 : AFn := ⟨18, 0, [.t 4], a107⟩
theorem ak107 : chkF Try.prog 107 af107 = true := by kernel_rfl

-- f108 slices.Equal[[]fingerpost/api.Flight,fingerpost/api.Flight]  boxes 0 notes []
def a108_l0 : AC := .seq (.reg [⟨some 14, .bin .lss (.t 13) (.t 12), none⟩]) (
  .seq (.cond (.t 14) (
    .skip) (
    .exit 0)) (
  .seq (.block 1 (
    .seq (.reg [⟨some 15, .cp (.t 13), none⟩,
        ⟨some 5, .cp (.t 15), none⟩]) (
    .seq (.drw [⟨some 16, .cp (.t 0), none⟩,
        ⟨some 17, .cp (.t 5), none⟩,
        ⟨some 18, .iaE 3 (.t 16) (.t 17), none⟩,
        ⟨some 19, .ld (some 3) (.t 18), none⟩,
        ⟨some 20, .cp (.t 1), none⟩,
        ⟨some 21, .cp (.t 5), none⟩,
        ⟨some 22, .iaE 3 (.t 20) (.t 21), none⟩,
        ⟨some 23, .ld (some 3) (.t 22), none⟩,
        ⟨some 24, .eqA true [.i, .i, .s] (.t 19) (.t 23), none⟩] []) (
    .cond (.t 24) (
      .seq (.reg [⟨some 4, .cp (.c (.bool false)), none⟩]) (
      .ret)) (
      .skip))))) (
  .reg [⟨some 25, .bin .add (.t 13) (.c (.int .i64 1)), none⟩,
      ⟨some 13, .cp (.t 25), none⟩])))
def a108 : AC := .seq (.reg [⟨some 4, .cp (.c (.bool false)), none⟩]) (
  .seq (.seq (.reg [⟨some 6, .cp (.t 0), none⟩,
      ⟨some 7, .len (.t 6), none⟩,
      ⟨some 8, .cp (.t 1), none⟩,
      ⟨some 9, .len (.t 8), none⟩,
      ⟨some 10, .bin .neq (.t 7) (.t 9), none⟩]) (
  .cond (.t 10) (
    .seq (.reg [⟨some 4, .cp (.c (.bool false)), none⟩]) (
    .ret)) (
    .skip))) (
  .seq (.seq (.reg [⟨some 11, .cp (.t 0), none⟩,
      ⟨some 12, .len (.t 11), none⟩,
      ⟨some 13, .cp (.c (.int .i64 0)), none⟩]) (
  .block 0 (
    .loop [false, false, false, false, true, true, false, false, false, false, false, false, false, false, true, true, true, true, true, true, true, true, true, true, true, true] [] a108_l0))) (
  .seq (.reg [⟨some 4, .cp (.c (.bool true)), none⟩]) (
  .ret))))
def af108 : AFn := ⟨26, 0, [.t 4], a108⟩
theorem ak108 : chkF Try.prog 108 af108 = true := by kernel_rfl

-- f109 fingerpost/air.onward  boxes 0 notes []
def a109 : AC := .seq (.reg [⟨some 2, .cp (.c (.int .u64 0)), none⟩]) (
  .seq (.reg [⟨some 3, .cp (.t 0), none⟩,
      ⟨some 4, .bin .mul (.t 3) (.c (.int .u64 6364136223846793005)), none⟩,
      ⟨some 5, .bin .add (.t 4) (.c (.int .u64 1442695040888963407)), none⟩,
      ⟨some 2, .cp (.t 5), none⟩]) (
  .ret))
def af109 : AFn := ⟨6, 0, [.t 2], a109⟩
theorem ak109 : chkF Try.prog 109 af109 = true := by kernel_rfl

-- f110 fingerpost/fingerpostref40.next  boxes 0 notes []
def a110 : AC := .seq (.reg [⟨some 2, .cp (.c (.int .u64 0)), none⟩]) (
  .seq (.reg [⟨some 3, .cp (.t 0), none⟩,
      ⟨some 4, .bin .mul (.t 3) (.c (.int .u64 6364136223846793005)), none⟩,
      ⟨some 5, .bin .add (.t 4) (.c (.int .u64 1442695040888963407)), none⟩,
      ⟨some 2, .cp (.t 5), none⟩]) (
  .ret))
def af110 : AFn := ⟨6, 0, [.t 2], a110⟩
theorem ak110 : chkF Try.prog 110 af110 = true := by kernel_rfl

end Go.Proofs.Ytmchbkmenokkdaa

/- The contracts of hello.Right, fingerpostlaw06.some and hello.Bytes, for every input. -/
import Derived.Test.YtkcdeefnkbbacaaPairRs
import Derived.Test.YtkcdeefnkbbacaaEpochs
import Derived.Lib.LazyBuf
set_option maxRecDepth 100000
namespace Go.Proofs.Ytkcdeefnkbbacaa
open Go.RowKit

/-- may it be said -/
def rightB (x : Int) (a b : Nat) : Bool := isNode x && !(decide (a = 0) && decide (b = 0))
set_option maxHeartbeats 400000 in
theorem right_any (x : Int) (a b c d : Nat) (w : World) :
    Calls Try.prog 20 #[.agg #[.int .i64 x, .int .u32 a, .int .u32 b, .int .u32 c, .int .u32 d]] w fun e w' => e = .returned (.bool (rightB x a b)) ∧ Below w.heap.size w w' := by
  have HB := Lib.hid ((Below.refl w.heap.size w).alloc (Nat.le_refl _) (.cells #[.int .i64 x, .int .u32 a, .int .u32 b, .int .u32 c, .int .u32 d] 28))
  have HR := Lib.hid (RowIs.new w #[.int .i64 x, .int .u32 a, .int .u32 b, .int .u32 c, .int .u32 d] 28)
  cases h : isNode x with
  | true =>
    have e : rightB x a b = !(decide (a = 0) && decide (b = 0)) := by simp [rightB, h]
    rw [e]; clear e
    go_enter Try.func20, Try.ntmps20
    go_wp2_with (first
      | (go_at_call 88; refine (node_any x _).mono ?_; rintro e w1 ⟨rfl, hb1⟩; rw [h]; replace HB := Lib.hid (below_step HB.out hb1); replace HR := Lib.hid (HR.out.keep hb1); clear hb1
         have c1 := HR.out.2.1 1 _ rfl; have c2 := HR.out.2.1 2 _ rfl)
      | (go_at_call 89; refine (none_any a b _).mono ?_; rintro e w2 ⟨rfl, hb2⟩; replace HB := Lib.hid (below_step HB.out hb2); clear hb2))
    go_ret
    exact ⟨by simp, HB.out⟩
  | false =>
    have e : rightB x a b = false := by simp [rightB, h]
    rw [e]; clear e
    go_enter Try.func20, Try.ntmps20
    go_wp2_with (first
      | (go_at_call 88; refine (node_any x _).mono ?_; rintro e w1 ⟨rfl, hb1⟩; rw [h]; replace HB := Lib.hid (below_step HB.out hb1); clear hb1))
    go_ret
    exact ⟨rfl, HB.out⟩

set_option maxHeartbeats 400000 in
theorem some_any (w : World) :
    Calls Try.prog 78 #[] w fun e w' => e = .returned (.agg #[.int .i64 3, .int .u32 1, .int .u32 2, .int .u32 0, .int .u32 0]) ∧ Below w.heap.size w w' := by
  go_enter Try.func78, Try.ntmps78
  go_wp2
  have HB := Lib.hid ((Below.refl w.heap.size w).alloc (Nat.le_refl _) (.cells #[.int .i64 3, .int .u32 1, .int .u32 2, .int .u32 0, .int .u32 0] 28))
  exact bodyPost_ret (v := .agg #[.int .i64 3, .int .u32 1, .int .u32 2, .int .u32 0, .int .u32 0]) (by simp [results, Try.results78, go_sem]) rfl ⟨rfl, HB.out⟩

theorem size_u8 (w : World) : (Go.sizeOf 5).run Try.prog w = .ok 1 w := by
  simp [Go.sizeOf, go_sem]
  rfl

set_option maxHeartbeats 400000 in
theorem hello_no (x : Int) (a b c d : Nat) (h : rightB x a b = false) (w : World) :
    Calls Try.prog 16 #[.agg #[.int .i64 x, .int .u32 a, .int .u32 b, .int .u32 c, .int .u32 d]] w fun e w' => e = .returned (.tuple #[.string (str []), .int .i64 1]) ∧ Below w.heap.size w w' := by
  have HB := Lib.hid ((Below.refl w.heap.size w).alloc (Nat.le_refl _) (.cells #[.int .i64 x, .int .u32 a, .int .u32 b, .int .u32 c, .int .u32 d] 28))
  go_enter Try.func16, Try.ntmps16
  go_wp2_with (first
    | (go_at_call 20; refine (right_any x a b c d _).mono ?_; rintro e w1 ⟨rfl, hb1⟩; rw [h]; replace HB := Lib.hid (below_step HB.out hb1); clear hb1))
  go_ret2
  exact ⟨rfl, HB.out⟩
end Go.Proofs.Ytkcdeefnkbbacaa

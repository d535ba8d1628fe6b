/- The contracts of epoch.None, epoch.Newer, nodes.Right and hello.Right, for every input. -/
import Derived.Test.YtkcdeefnkbbacaaPackA
import Derived.Deep.RegionHeld3
import Derived.Deep.DeepCutAuto
set_option maxRecDepth 100000
namespace Go.Proofs.Ytkcdeefnkbbacaa
open Go.RowKit

set_option maxHeartbeats 400000 in
theorem none_any (a b : Nat) (w : World) :
    Calls Try.prog 89 #[.agg #[.int .u32 a, .int .u32 b]] w fun e w' => e = .returned (.bool (decide (a = 0) && decide (b = 0))) ∧ Below w.heap.size w w' := by
  have HB := Lib.hid ((Below.refl w.heap.size w).alloc (Nat.le_refl _) (.cells #[.int .u32 a, .int .u32 b] 24))
  by_cases ha : a = 0
  · by_cases hb : b = 0
    · subst ha; subst hb
      go_enter Try.func89, Try.ntmps89
      go_wp2
      go_ret
      exact ⟨rfl, HB.out⟩
    · subst ha
      go_enter Try.func89, Try.ntmps89
      go_wp2
      go_ret
      exact ⟨by simp [hb], HB.out⟩
  · go_enter Try.func89, Try.ntmps89
    go_wp2
    go_ret
    exact ⟨by simp [ha], HB.out⟩

/-- is it a node -/
def isNode (x : Int) : Bool := decide (0 ≤ x ∧ x < 16)
set_option maxHeartbeats 400000 in
theorem node_any (x : Int) (w : World) :
    Calls Try.prog 88 #[.int .i64 x] w fun e w' => e = .returned (.bool (isNode x)) ∧ Below w.heap.size w w' := by
  by_cases h0 : 0 ≤ x
  · by_cases h1 : x < 16
    · have e : isNode x = true := by simp [isNode, h0, h1]
      rw [e]; clear e
      go_enter Try.func88, Try.ntmps88
      go_wp2
      go_ret
      exact ⟨rfl, Below.refl _ _⟩
    · have e : isNode x = false := by simp [isNode, h1]
      rw [e]; clear e
      go_enter Try.func88, Try.ntmps88
      go_wp2
      go_ret
      exact ⟨rfl, Below.refl _ _⟩
  · have e : isNode x = false := by simp [isNode, h0]
    rw [e]; clear e
    go_enter Try.func88, Try.ntmps88
    go_wp2
    go_ret
    exact ⟨rfl, Below.refl _ _⟩
end Go.Proofs.Ytkcdeefnkbbacaa

/- HelloKnows: the contracts of what it calls, and its own. -/
import Derived.Test.YtildhamfnfifjaaWKc
import Derived.Test.YtildhamfnfifjaaHelloA
set_option maxRecDepth 100000
namespace Go.Proofs.Ytildhamfnfifjaa
open Go.RowKit
set_option maxHeartbeats 2000000
theorem awake6_good : Good Try.prog 14 [] (.bool true) :=
  .of_calls (u := .bool true) (fun g w => ⟨.bool true, by simp⟩) fun w I vs h => by rw [h.nil_inv]; exact awake_any w
abbrev eE (a b : Int) : AV := .agg [.int .u32 a, .int .u32 b]
abbrev eH (x a b c d : Int) : AV := .agg [.int .i64 x, .int .u32 a, .int .u32 b, .int .u32 c, .int .u32 d]
theorem none_good (a b : Int) : Good Try.prog 25 [eE a b] (.bool (decide (a = 0) && decide (b = 0))) := by
  ak_at; go_ax fail
  simp
theorem rnone_good (a b : Int) : Good Try.prog 74 [eE a b] (.bool (decide (a = 0) && decide (b = 0))) := by
  ak_at; go_ax fail
  all_goals grind
theorem newer_good (a b c d : Int) : Good Try.prog 75 [eE a b, eE c d] (.bool (if a = c then decide (d < b) else decide (c < a))) := by
  ak_at; go_ax fail
  all_goals grind
theorem rnewer_good (a b c d : Int) : Good Try.prog 76 [eE a b, eE c d] (.bool (if a = c then decide (d < b) else decide (c < a))) := by
  ak_at; go_ax fail
  all_goals grind
def knowsZ (c d m n : Int) : Int := if c = 0 ∧ d = 0 then 0 else if c = m ∧ d = n then 3 else if (if m = c then d < n else c < m) then 1 else 2
theorem knows_good (x a b c d m n : Int) : Good Try.prog 21 [eH x a b c d, eE m n] (.int .i64 (knowsZ c d m n)) := by
  ak_at; go_ax (gd none_good, newer_good)
  all_goals unfold knowsZ; grind
theorem rknows_good (x a b c d m n : Int) : Good Try.prog 22 [eH x a b c d, eE m n] (.int .i64 (knowsZ c d m n)) := by
  ak_at; go_ax (gd rnone_good, rnewer_good)
  all_goals unfold knowsZ; grind

theorem nright_good (x : Int) : Good Try.prog 72 [.int .i64 x] (.bool (decide (0 ≤ x ∧ x < 16))) := by
  ak_at; go_ax fail
  all_goals leaf
theorem rnright_good (x : Int) : Good Try.prog 73 [.int .i64 x] (.bool (decide (0 ≤ x ∧ x < 16))) := by
  ak_at; go_ax fail
  all_goals leaf
abbrev rightH (x a b : Int) : Prop := 0 ≤ x ∧ x < 16 ∧ ¬ (a = 0 ∧ b = 0)
theorem right_good (x a b c d : Int) : Good Try.prog 19 [eH x a b c d] (.bool (decide (rightH x a b))) := by
  ak_at; go_ax (gd nright_good, none_good)
  all_goals leaf
theorem rright_good (x a b c d : Int) : Good Try.prog 20 [eH x a b c d] (.bool (decide (rightH x a b))) := by
  ak_at; go_ax (gd rnright_good, rnone_good)
  all_goals leaf
def answersB (x a b c d y p q r s : Int) : Bool := decide (rightH x a b ∧ rightH y p q ∧ x ≠ y ∧ r = a ∧ s = b ∧ ((c = 0 ∧ d = 0) ∨ (c = p ∧ d = q)))
theorem answers_good (x a b c d y p q r s : Int) : Good Try.prog 23 [eH x a b c d, eH y p q r s] (.bool (answersB x a b c d y p q r s)) := by
  ak_at; go_ax (gd right_good, none_good)
  all_goals unfold answersB; leaf
theorem ranswers_good (x a b c d y p q r s : Int) : Good Try.prog 24 [eH x a b c d, eH y p q r s] (.bool (answersB x a b c d y p q r s)) := by
  ak_at; go_ax (gd rright_good, rnone_good)
  all_goals unfold answersB; leaf
theorem helloKnows_good (x a b c d y p q r s m n : Int) : Good Try.prog 5 [eH x a b c d, eH y p q r s, eE m n] (.bool true) := by
  ak_at; go_ax (gd knows_good, rknows_good, answers_good, ranswers_good, right_good, none_good, awake6_good)
  all_goals grind [knowsZ, answersB]
end Go.Proofs.Ytildhamfnfifjaa

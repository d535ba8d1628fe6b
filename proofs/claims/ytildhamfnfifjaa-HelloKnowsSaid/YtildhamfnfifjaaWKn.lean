/- HelloKnows: the contracts of what it calls, and its own. -/
import Derived.Test.YtildhamfnfifjaaWKc
import Derived.Test.YtildhamfnfifjaaHelloA
set_option maxRecDepth 100000
namespace Go.Proofs.Ytildhamfnfifjaa
open Go.RowKit
set_option maxHeartbeats 2000000
theorem awake6_good : Good Try.prog 14 [] (.bool true) :=
  .of_calls (u := .bool true) (fun g w => ⟨.bool true, by simp⟩) fun w I vs h => by rw [h.nil_inv]; exact awake_any w
abbrev eE (a b : Int) : AV := .agg [.int .u32 a, .int .u32 b]
abbrev eH (x a b c d : Int) : AV := .agg [.int .i64 x, .int .u32 a, .int .u32 b, .int .u32 c, .int .u32 d]
theorem none_good (a b : Int) : Good Try.prog 25 [eE a b] (.bool (decide (a = 0) && decide (b = 0))) := by
  refine good_at ak25 rfl rfl rfl ?_
  conv => whnf
  conv => lhs; whnf
  first | grind | (congr 1; grind) | (simp; done) | (simp_all; done) | (simp_all; omega)
theorem rnone_good (a b : Int) : Good Try.prog 74 [eE a b] (.bool (decide (a = 0) && decide (b = 0))) := by
  refine good_at ak74 rfl rfl rfl ?_
  conv => whnf
  conv => lhs; whnf
  first | grind | (congr 1; grind) | (simp; done) | (simp_all; done) | (simp_all; omega)
theorem newer_good (a b c d : Int) : Good Try.prog 75 [eE a b, eE c d] (.bool (if a = c then decide (d < b) else decide (c < a))) := by
  refine good_at ak75 rfl rfl rfl ?_
  conv => whnf
  cases hc : (!decide (a = c) : Bool)
  · conv => whnf
    conv => lhs; whnf
    first | grind | (congr 1; grind) | (simp; done) | (simp_all; done) | (simp_all; omega)
  · conv => whnf
    conv => lhs; whnf
    first | grind | (congr 1; grind) | (simp; done) | (simp_all; done) | (simp_all; omega)
theorem rnewer_good (a b c d : Int) : Good Try.prog 76 [eE a b, eE c d] (.bool (if a = c then decide (d < b) else decide (c < a))) := by
  refine good_at ak76 rfl rfl rfl ?_
  conv => whnf
  cases hc : (!decide (a = c) : Bool)
  · conv => whnf
    conv => lhs; whnf
    first | grind | (congr 1; grind) | (simp; done) | (simp_all; done) | (simp_all; omega)
  · conv => whnf
    conv => lhs; whnf
    first | grind | (congr 1; grind) | (simp; done) | (simp_all; done) | (simp_all; omega)
def knowsZ (c d m n : Int) : Int := if c = 0 ∧ d = 0 then 0 else if c = m ∧ d = n then 3 else if (if m = c then d < n else c < m) then 1 else 2
theorem knows_good (x a b c d m n : Int) : Good Try.prog 21 [eH x a b c d, eE m n] (.int .i64 (knowsZ c d m n)) := by
  refine good_at ak21 rfl rfl rfl ?_
  conv => whnf
  refine ⟨_, none_good _ _, ?_⟩
  conv => whnf
  cases hc : (decide (c = 0) && decide (d = 0) : Bool)
  · conv => whnf
    cases hc : (decide (c = m) && (decide (d = n) && true) : Bool)
    · conv => whnf
      refine ⟨_, newer_good _ _ _ _, ?_⟩
      conv => whnf
      cases hc : (if m = c then decide (d < n) else decide (c < m) : Bool)
      · conv => whnf
        conv => lhs; whnf
        first | grind [knowsZ] | (congr 1; grind [knowsZ]) | (simp; done) | (simp_all [knowsZ]; done) | (simp_all [knowsZ]; omega)
      · conv => whnf
        conv => lhs; whnf
        first | grind [knowsZ] | (congr 1; grind [knowsZ]) | (simp; done) | (simp_all [knowsZ]; done) | (simp_all [knowsZ]; omega)
    · conv => whnf
      conv => lhs; whnf
      first | grind [knowsZ] | (congr 1; grind [knowsZ]) | (simp; done) | (simp_all [knowsZ]; done) | (simp_all [knowsZ]; omega)
  · conv => whnf
    conv => lhs; whnf
    first | grind [knowsZ] | (congr 1; grind [knowsZ]) | (simp; done) | (simp_all [knowsZ]; done) | (simp_all [knowsZ]; omega)
theorem rknows_good (x a b c d m n : Int) : Good Try.prog 22 [eH x a b c d, eE m n] (.int .i64 (knowsZ c d m n)) := by
  refine good_at ak22 rfl rfl rfl ?_
  conv => whnf
  refine ⟨_, rnone_good _ _, ?_⟩
  conv => whnf
  cases hc : (decide (c = 0) && decide (d = 0) : Bool)
  · conv => whnf
    cases hc : (decide (c = m) && (decide (d = n) && true) : Bool)
    · conv => whnf
      refine ⟨_, rnewer_good _ _ _ _, ?_⟩
      conv => whnf
      cases hc : (if m = c then decide (d < n) else decide (c < m) : Bool)
      · conv => whnf
        conv => lhs; whnf
        first | grind [knowsZ] | (congr 1; grind [knowsZ]) | (simp; done) | (simp_all [knowsZ]; done) | (simp_all [knowsZ]; omega)
      · conv => whnf
        conv => lhs; whnf
        first | grind [knowsZ] | (congr 1; grind [knowsZ]) | (simp; done) | (simp_all [knowsZ]; done) | (simp_all [knowsZ]; omega)
    · conv => whnf
      conv => lhs; whnf
      first | grind [knowsZ] | (congr 1; grind [knowsZ]) | (simp; done) | (simp_all [knowsZ]; done) | (simp_all [knowsZ]; omega)
  · conv => whnf
    conv => lhs; whnf
    first | grind [knowsZ] | (congr 1; grind [knowsZ]) | (simp; done) | (simp_all [knowsZ]; done) | (simp_all [knowsZ]; omega)
theorem nright_good (x : Int) : Good Try.prog 72 [.int .i64 x] (.bool (decide (0 ≤ x ∧ x < 16))) := by
  refine good_at ak72 rfl rfl rfl ?_
  conv => whnf
  cases hc : (decide (0 ≤ x) : Bool)
  · conv => whnf
    conv => lhs; whnf
    first | grind | (congr 1; grind) | (simp; done) | (simp_all; done) | (simp_all; omega)
  · conv => whnf
    conv => lhs; whnf
    first | grind | (congr 1; grind) | (simp; done) | (simp_all; done) | (simp_all; omega)
theorem rnright_good (x : Int) : Good Try.prog 73 [.int .i64 x] (.bool (decide (0 ≤ x ∧ x < 16))) := by
  refine good_at ak73 rfl rfl rfl ?_
  conv => whnf
  cases hc : (decide (0 ≤ x) : Bool)
  · conv => whnf
    conv => lhs; whnf
    first | grind | (congr 1; grind) | (simp; done) | (simp_all; done) | (simp_all; omega)
  · conv => whnf
    conv => lhs; whnf
    first | grind | (congr 1; grind) | (simp; done) | (simp_all; done) | (simp_all; omega)
abbrev rightH (x a b : Int) : Prop := 0 ≤ x ∧ x < 16 ∧ ¬ (a = 0 ∧ b = 0)
theorem right_good (x a b c d : Int) : Good Try.prog 19 [eH x a b c d] (.bool (decide (rightH x a b))) := by
  refine good_at ak19 rfl rfl rfl ?_
  conv => whnf
  refine ⟨_, nright_good _, ?_⟩
  conv => whnf
  cases hc : (decide (0 ≤ x ∧ x < 16) : Bool)
  · conv => whnf
    conv => lhs; whnf
    first | grind | (congr 1; grind) | (simp; done) | (simp_all; done) | (simp_all; omega)
  · conv => whnf
    refine ⟨_, none_good _ _, ?_⟩
    conv => whnf
    conv => lhs; whnf
    first | grind | (congr 1; grind) | (simp; done) | (simp_all; done) | (simp_all; omega)
theorem rright_good (x a b c d : Int) : Good Try.prog 20 [eH x a b c d] (.bool (decide (rightH x a b))) := by
  refine good_at ak20 rfl rfl rfl ?_
  conv => whnf
  refine ⟨_, rnright_good _, ?_⟩
  conv => whnf
  cases hc : (decide (0 ≤ x ∧ x < 16) : Bool)
  · conv => whnf
    conv => lhs; whnf
    first | grind | (congr 1; grind) | (simp; done) | (simp_all; done) | (simp_all; omega)
  · conv => whnf
    refine ⟨_, rnone_good _ _, ?_⟩
    conv => whnf
    conv => lhs; whnf
    first | grind | (congr 1; grind) | (simp; done) | (simp_all; done) | (simp_all; omega)
def answersB (x a b c d y p q r s : Int) : Bool := decide (rightH x a b ∧ rightH y p q ∧ x ≠ y ∧ r = a ∧ s = b ∧ ((c = 0 ∧ d = 0) ∨ (c = p ∧ d = q)))
theorem answers_good (x a b c d y p q r s : Int) : Good Try.prog 23 [eH x a b c d, eH y p q r s] (.bool (answersB x a b c d y p q r s)) := by
  refine good_at ak23 rfl rfl rfl ?_
  conv => whnf
  refine ⟨_, right_good _ _ _ _ _, ?_⟩
  conv => whnf
  cases hc : (!decide (rightH x a b) : Bool)
  · conv => whnf
    refine ⟨_, right_good _ _ _ _ _, ?_⟩
    conv => whnf
    cases hc : (!decide (rightH y p q) : Bool)
    · conv => whnf
      cases hc : (decide (x = y) : Bool)
      · conv => whnf
        cases hc : (!(decide (r = a) && (decide (s = b) && true)) : Bool)
        · conv => whnf
          refine ⟨_, none_good _ _, ?_⟩
          conv => whnf
          cases hc : (decide (c = 0) && decide (d = 0) : Bool)
          · conv => whnf
            conv => lhs; whnf
            first | grind [answersB] | (congr 1; grind [answersB]) | (simp; done) | (simp_all [answersB]; done) | (simp_all [answersB]; omega)
          · conv => whnf
            conv => lhs; whnf
            first | grind [answersB] | (congr 1; grind [answersB]) | (simp; done) | (simp_all [answersB]; done) | (simp_all [answersB]; omega)
        · conv => whnf
          conv => lhs; whnf
          first | grind [answersB] | (congr 1; grind [answersB]) | (simp; done) | (simp_all [answersB]; done) | (simp_all [answersB]; omega)
      · conv => whnf
        conv => lhs; whnf
        first | grind [answersB] | (congr 1; grind [answersB]) | (simp; done) | (simp_all [answersB]; done) | (simp_all [answersB]; omega)
    · conv => whnf
      conv => lhs; whnf
      first | grind [answersB] | (congr 1; grind [answersB]) | (simp; done) | (simp_all [answersB]; done) | (simp_all [answersB]; omega)
  · conv => whnf
    conv => lhs; whnf
    first | grind [answersB] | (congr 1; grind [answersB]) | (simp; done) | (simp_all [answersB]; done) | (simp_all [answersB]; omega)
theorem ranswers_good (x a b c d y p q r s : Int) : Good Try.prog 24 [eH x a b c d, eH y p q r s] (.bool (answersB x a b c d y p q r s)) := by
  refine good_at ak24 rfl rfl rfl ?_
  conv => whnf
  refine ⟨_, rright_good _ _ _ _ _, ?_⟩
  conv => whnf
  cases hc : (decide (rightH x a b) : Bool)
  · conv => whnf
    conv => lhs; whnf
    first | grind [answersB] | (congr 1; grind [answersB]) | (simp; done) | (simp_all [answersB]; done) | (simp_all [answersB]; omega)
  · conv => whnf
    refine ⟨_, rright_good _ _ _ _ _, ?_⟩
    conv => whnf
    cases hc : (decide (rightH y p q) : Bool)
    · conv => whnf
      conv => lhs; whnf
      first | grind [answersB] | (congr 1; grind [answersB]) | (simp; done) | (simp_all [answersB]; done) | (simp_all [answersB]; omega)
    · conv => whnf
      cases hc : (!decide (x = y) : Bool)
      · conv => whnf
        conv => lhs; whnf
        first | grind [answersB] | (congr 1; grind [answersB]) | (simp; done) | (simp_all [answersB]; done) | (simp_all [answersB]; omega)
      · conv => whnf
        cases hc : (decide (r = a) && (decide (s = b) && true) : Bool)
        · conv => whnf
          conv => lhs; whnf
          first | grind [answersB] | (congr 1; grind [answersB]) | (simp; done) | (simp_all [answersB]; done) | (simp_all [answersB]; omega)
        · conv => whnf
          refine ⟨_, rnone_good _ _, ?_⟩
          conv => whnf
          cases hc : (decide (c = 0) && decide (d = 0) : Bool)
          · conv => whnf
            conv => lhs; whnf
            first | grind [answersB] | (congr 1; grind [answersB]) | (simp; done) | (simp_all [answersB]; done) | (simp_all [answersB]; omega)
          · conv => whnf
            conv => lhs; whnf
            first | grind [answersB] | (congr 1; grind [answersB]) | (simp; done) | (simp_all [answersB]; done) | (simp_all [answersB]; omega)
theorem helloKnows_good (x a b c d y p q r s m n : Int) : Good Try.prog 5 [eH x a b c d, eH y p q r s, eE m n] (.bool true) := by
  refine good_at ak5 rfl rfl rfl ?_
  conv => whnf
  refine ⟨_, knows_good _ _ _ _ _ _ _, ?_⟩
  conv => whnf
  refine ⟨_, rknows_good _ _ _ _ _ _ _, ?_⟩
  conv => whnf
  cases hc : (!decide (knowsZ c d m n = knowsZ c d m n) : Bool)
  · conv => whnf
    refine ⟨_, answers_good _ _ _ _ _ _ _ _ _ _, ?_⟩
    conv => whnf
    refine ⟨_, ranswers_good _ _ _ _ _ _ _ _ _ _, ?_⟩
    conv => whnf
    cases hc : (!decide (answersB x a b c d y p q r s = answersB x a b c d y p q r s) : Bool)
    · conv => whnf
      cases hc : (decide (knowsZ c d m n < 0) : Bool)
      · conv => whnf
        cases hc : (decide (3 < knowsZ c d m n) : Bool)
        · conv => whnf
          refine ⟨_, none_good _ _, ?_⟩
          conv => whnf
          cases hc : (!decide (decide (knowsZ c d m n = 0) = (decide (c = 0) && decide (d = 0))) : Bool)
          · conv => whnf
            refine ⟨_, answers_good _ _ _ _ _ _ _ _ _ _, ?_⟩
            conv => whnf
            cases hc : (!answersB x a b c d y p q r s : Bool)
            · conv => whnf
              refine ⟨_, knows_good _ _ _ _ _ _ _, ?_⟩
              conv => whnf
              cases hc : (decide (knowsZ r s a b = 3) : Bool)
              · conv => whnf
                conv => lhs; whnf
                first | grind [knowsZ, answersB] | (congr 1; grind [knowsZ, answersB]) | (simp; done) | (simp_all [knowsZ, answersB]; done) | (simp_all [knowsZ, answersB]; omega)
              · conv => whnf
                cases hc : (!decide (x = y) : Bool)
                · conv => whnf
                  conv => lhs; whnf
                  first | grind [knowsZ, answersB] | (congr 1; grind [knowsZ, answersB]) | (simp; done) | (simp_all [knowsZ, answersB]; done) | (simp_all [knowsZ, answersB]; omega)
                · conv => whnf
                  refine ⟨_, right_good _ _ _ _ _, ?_⟩
                  conv => whnf
                  cases hc : (decide (rightH x a b) : Bool)
                  · conv => whnf
                    conv => lhs; whnf
                    first | grind [knowsZ, answersB] | (congr 1; grind [knowsZ, answersB]) | (simp; done) | (simp_all [knowsZ, answersB]; done) | (simp_all [knowsZ, answersB]; omega)
                  · conv => whnf
                    refine ⟨_, awake6_good, ?_⟩
                    conv => whnf
                    exact rfl
            · conv => whnf
              refine ⟨_, awake6_good, ?_⟩
              conv => whnf
              exact rfl
          · conv => whnf
            conv => lhs; whnf
            first | grind [knowsZ, answersB] | (congr 1; grind [knowsZ, answersB]) | (simp; done) | (simp_all [knowsZ, answersB]; done) | (simp_all [knowsZ, answersB]; omega)
        · conv => whnf
          conv => lhs; whnf
          first | grind [knowsZ, answersB] | (congr 1; grind [knowsZ, answersB]) | (simp; done) | (simp_all [knowsZ, answersB]; done) | (simp_all [knowsZ, answersB]; omega)
      · conv => whnf
        conv => lhs; whnf
        first | grind [knowsZ, answersB] | (congr 1; grind [knowsZ, answersB]) | (simp; done) | (simp_all [knowsZ, answersB]; done) | (simp_all [knowsZ, answersB]; omega)
    · first | (exact absurd hc (by decide)) | grind | (simp_all; done)
  · first | (exact absurd hc (by decide)) | grind | (simp_all; done)
end Go.Proofs.Ytildhamfnfifjaa

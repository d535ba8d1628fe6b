/- The two laws of chapter 20: the contracts of what they call, and their own. -/
import Derived.Test.YtmchbkmenokkdaaS20c
set_option maxRecDepth 100000
namespace Go.Proofs.Ytmchbkmenokkdaa
open Go.RowKit
set_option maxHeartbeats 4000000
abbrev eE (a b : Int) : AV := .agg [.int .u32 a, .int .u32 b]
abbrev eR (a b c d : Int) : AV := .agg [.int .u32 a, .int .u32 b, .int .u32 c, .int .u32 d]
abbrev eH (x a b c d : Int) : AV := .agg [.int .i64 x, .int .u32 a, .int .u32 b, .int .u32 c, .int .u32 d]
abbrev eP (st a b c d q w : Int) : AV := .agg [.int .i64 st, .int .u32 a, .int .u32 b, .int .u32 c, .int .u32 d, .int .i64 q, .int .i64 w, .int .i64 0, .sl .sh 4 [], .int .i64 0, .sl .sh 8 [], .sl .sh 4 []]
theorem none_good (a b : Int) : Good Try.prog 50 [eE a b] (.bool (decide (a = 0 ∧ b = 0))) := by
  refine good_at ak50 rfl rfl rfl ?_
  conv => whnf
  refine AV.of_eqv ?_
  conv => whnf
  refine And.intro (by grind) ?_
  exact True.intro
def nw (a b c d : Int) : Prop := (a = c ∧ d < b) ∨ (a ≠ c ∧ c < a)
instance (a b c d : Int) : Decidable (nw a b c d) := by unfold nw; infer_instance
theorem newer_good (a b c d : Int) : Good Try.prog 49 [eE a b, eE c d] (.bool (decide (nw a b c d))) := by
  refine good_at ak49 rfl rfl rfl ?_
  conv => whnf
  refine And.intro (fun hc0 => ?_) (fun hc0 => ?_)
  · replace hc0 := of_decide_eq_false (Bool.not_eq_true' _ |>.mp hc0)
    conv => whnf
    refine AV.of_eqv ?_
    conv => whnf
    refine And.intro (by grind [nw]) ?_
    exact True.intro
  · replace hc0 := of_decide_eq_true (Bool.not_eq_false' _ |>.mp hc0)
    conv => whnf
    refine AV.of_eqv ?_
    conv => whnf
    refine And.intro (by grind [nw]) ?_
    exact True.intro
theorem ep_good (a b : Int) : Good Try.prog 102 [.int .u32 a, .int .u32 b] (eE a b) := by
  refine good_at ak102 rfl rfl rfl ?_
  conv => whnf
  refine AV.of_eqv ?_
  conv => whnf
  refine And.intro (by with_reducible rfl) ?_
  conv => whnf
  refine And.intro (by with_reducible rfl) ?_
  exact True.intro
theorem nright_good (x : Int) : Good Try.prog 126 [.int .i64 x] (.bool (decide (0 ≤ x ∧ x < 16))) := by
  refine good_at ak126 rfl rfl rfl ?_
  conv => whnf
  refine And.intro (fun hc0 => ?_) (fun hc0 => ?_)
  · replace hc0 := of_decide_eq_true hc0
    conv => whnf
    refine br_l rfl rfl ?_
    conv => whnf
    refine br_l rfl rfl ?_
    conv => whnf
    refine AV.of_eqv ?_
    conv => whnf
    refine And.intro (by grind) ?_
    exact True.intro
  · replace hc0 := of_decide_eq_false hc0
    conv => whnf
    refine br_r rfl rfl ?_
    conv => whnf
    refine br_r rfl rfl ?_
    conv => whnf
    refine AV.of_eqv ?_
    conv => whnf
    refine And.intro (by grind) ?_
    exact True.intro
theorem right_good (x a b c d : Int) : Good Try.prog 105 [eH x a b c d] (.bool (decide (0 ≤ x ∧ x < 16 ∧ ¬ (a = 0 ∧ b = 0)))) := by
  refine good_at ak105 rfl rfl rfl ?_
  conv => whnf
  refine ⟨_, nright_good _, ?_⟩
  conv => whnf
  refine And.intro (fun hc0 => ?_) (fun hc0 => ?_)
  · replace hc0 := of_decide_eq_true hc0
    conv => whnf
    refine br_l rfl rfl ?_
    conv => whnf
    refine br_l rfl rfl ?_
    conv => whnf
    refine br_l rfl rfl ?_
    conv => whnf
    refine ⟨_, none_good _ _, ?_⟩
    conv => whnf
    refine br_l rfl rfl ?_
    conv => whnf
    refine br_l rfl rfl ?_
    conv => whnf
    refine AV.of_eqv ?_
    conv => whnf
    refine And.intro (by grind) ?_
    exact True.intro
  · replace hc0 := of_decide_eq_false hc0
    conv => whnf
    refine br_r rfl rfl ?_
    conv => whnf
    refine br_r rfl rfl ?_
    conv => whnf
    refine br_r rfl rfl ?_
    conv => whnf
    refine br_r rfl rfl ?_
    conv => whnf
    refine br_r rfl rfl ?_
    conv => whnf
    refine AV.of_eqv ?_
    conv => whnf
    refine And.intro (by grind) ?_
    exact True.intro
theorem wnew_good : Good Try.prog 76 [] (.agg [.int .i64 0, .sl .sh 8 []]) := by
  refine good_at ak76 rfl rfl rfl ?_
  conv => whnf
  refine AV.of_eqv ?_
  conv => whnf
  refine And.intro (by with_reducible rfl) ?_
  conv => whnf
  refine And.intro (by with_reducible rfl) ?_
  exact True.intro
theorem mnew_good : Good Try.prog 104 [] (.agg [.int .i64 0, .sl .sh 4 [], .int .i64 0, .sl .sh 8 [], .sl .sh 4 []]) := by
  refine good_at ak104 rfl rfl rfl ?_
  conv => whnf
  refine ⟨_, wnew_good, ?_⟩
  conv => whnf
  refine AV.of_eqv ?_
  conv => whnf
  refine And.intro (by with_reducible rfl) ?_
  conv => whnf
  refine And.intro (by with_reducible rfl) ?_
  conv => whnf
  refine And.intro (by with_reducible rfl) ?_
  conv => whnf
  refine And.intro (by with_reducible rfl) ?_
  conv => whnf
  refine And.intro (by with_reducible rfl) ?_
  exact True.intro
theorem snew_good : Good Try.prog 47 [] (eP 0 0 0 0 0 0 0) := by
  refine good_at ak47 rfl rfl rfl ?_
  conv => whnf
  refine ⟨_, mnew_good, ?_⟩
  conv => whnf
  refine AV.of_eqv ?_
  conv => whnf
  refine And.intro (by with_reducible rfl) ?_
  conv => whnf
  refine And.intro (by with_reducible rfl) ?_
  conv => whnf
  refine And.intro (by with_reducible rfl) ?_
  conv => whnf
  refine And.intro (by with_reducible rfl) ?_
  conv => whnf
  refine And.intro (by with_reducible rfl) ?_
  conv => whnf
  refine And.intro (by with_reducible rfl) ?_
  conv => whnf
  refine And.intro (by with_reducible rfl) ?_
  conv => whnf
  refine And.intro (by with_reducible rfl) ?_
  conv => whnf
  refine And.intro (by with_reducible rfl) ?_
  conv => whnf
  refine And.intro (by with_reducible rfl) ?_
  conv => whnf
  refine And.intro (by with_reducible rfl) ?_
  conv => whnf
  refine And.intro (by with_reducible rfl) ?_
  exact True.intro
theorem begin_good (st a b c d q w m n r s : Int) : Good Try.prog 46 [eP st a b c d q w, eE m n, eE r s] (eP 1 m n r s 0 0) := by
  refine good_at ak46 rfl rfl rfl ?_
  conv => whnf
  refine And.intro (by exact rfl) ?_
  conv => whnf
  refine ⟨_, mnew_good, ?_⟩
  conv => whnf
  refine AV.of_eqv ?_
  conv => whnf
  refine And.intro (by with_reducible rfl) ?_
  conv => whnf
  refine And.intro (by with_reducible rfl) ?_
  conv => whnf
  refine And.intro (by with_reducible rfl) ?_
  conv => whnf
  refine And.intro (by with_reducible rfl) ?_
  conv => whnf
  refine And.intro (by with_reducible rfl) ?_
  conv => whnf
  refine And.intro (by with_reducible rfl) ?_
  conv => whnf
  refine And.intro (by with_reducible rfl) ?_
  conv => whnf
  refine And.intro (by with_reducible rfl) ?_
  conv => whnf
  refine And.intro (by with_reducible rfl) ?_
  conv => whnf
  refine And.intro (by with_reducible rfl) ?_
  conv => whnf
  refine And.intro (by with_reducible rfl) ?_
  conv => whnf
  refine And.intro (by with_reducible rfl) ?_
  exact True.intro
theorem pair_good (st a b c d q w : Int) : Good Try.prog 53 [eP st a b c d q w] (eR a b c d) := by
  refine good_at ak53 rfl rfl rfl ?_
  conv => whnf
  refine AV.of_eqv ?_
  conv => whnf
  refine And.intro (by with_reducible rfl) ?_
  conv => whnf
  refine And.intro (by with_reducible rfl) ?_
  conv => whnf
  refine And.intro (by with_reducible rfl) ?_
  conv => whnf
  refine And.intro (by with_reducible rfl) ?_
  exact True.intro
theorem told_good (x st a b c d q w : Int) : Good Try.prog 55 [.int .i64 x, eP st a b c d q w] (eH x a b c d) := by
  refine good_at ak55 rfl rfl rfl ?_
  conv => whnf
  refine ⟨_, pair_good _ _ _ _ _ _ _, ?_⟩
  conv => whnf
  refine AV.of_eqv ?_
  conv => whnf
  refine And.intro (by with_reducible rfl) ?_
  conv => whnf
  refine And.intro (by with_reducible rfl) ?_
  conv => whnf
  refine And.intro (by with_reducible rfl) ?_
  conv => whnf
  refine And.intro (by with_reducible rfl) ?_
  conv => whnf
  refine And.intro (by with_reducible rfl) ?_
  exact True.intro
theorem eswap_good (a b c d : Int) : Good Try.prog 131 [eR a b c d] (eR c d a b) := by
  refine good_at ak131 rfl rfl rfl ?_
  conv => whnf
  refine AV.of_eqv ?_
  conv => whnf
  refine And.intro (by with_reducible rfl) ?_
  conv => whnf
  refine And.intro (by with_reducible rfl) ?_
  conv => whnf
  refine And.intro (by with_reducible rfl) ?_
  conv => whnf
  refine And.intro (by with_reducible rfl) ?_
  exact True.intro
theorem esame_good (a b c d r s t u : Int) : Good Try.prog 106 [eR a b c d, eR r s t u] (.bool (decide (a = t ∧ b = u ∧ c = r ∧ d = s ∧ ¬ (a = 0 ∧ b = 0) ∧ ¬ (c = 0 ∧ d = 0)))) := by
  refine good_at ak106 rfl rfl rfl ?_
  conv => whnf
  refine And.intro (by exact rfl) ?_
  conv => whnf
  refine ⟨_, eswap_good _ _ _ _, ?_⟩
  conv => whnf
  refine And.intro (fun hc0 => ?_) (fun hc0 => ?_)
  · simp only [Bool.not_eq_true', Bool.not_eq_false', Bool.and_eq_true, Bool.and_eq_false_imp, Bool.or_eq_true, Bool.or_eq_false_iff, Bool.and_true, Bool.true_and, Bool.not_true, Bool.not_false, decide_eq_true_eq, decide_eq_false_iff_not, Bool.decide_and] at hc0
    conv => whnf
    refine br_l rfl rfl ?_
    conv => whnf
    refine br_l rfl rfl ?_
    conv => whnf
    refine ⟨_, none_good _ _, ?_⟩
    conv => whnf
    refine br_l rfl rfl ?_
    conv => whnf
    refine br_l rfl rfl ?_
    conv => whnf
    refine And.intro (fun hc1 => ?_) (fun hc1 => ?_)
    · replace hc1 := of_decide_eq_false (Bool.not_eq_true' _ |>.mp hc1)
      conv => whnf
      refine br_l rfl rfl ?_
      conv => whnf
      refine br_l rfl rfl ?_
      conv => whnf
      refine ⟨_, none_good _ _, ?_⟩
      conv => whnf
      refine br_l rfl rfl ?_
      conv => whnf
      refine br_l rfl rfl ?_
      conv => whnf
      refine AV.of_eqv ?_
      conv => whnf
      refine And.intro (by grind) ?_
      exact True.intro
    · replace hc1 := of_decide_eq_true (Bool.not_eq_false' _ |>.mp hc1)
      conv => whnf
      refine br_r rfl rfl ?_
      conv => whnf
      refine br_r rfl rfl ?_
      conv => whnf
      refine br_r rfl rfl ?_
      conv => whnf
      refine br_r rfl rfl ?_
      conv => whnf
      refine AV.of_eqv ?_
      conv => whnf
      refine And.intro (by grind) ?_
      exact True.intro
  · simp only [Bool.not_eq_true', Bool.not_eq_false', Bool.and_eq_true, Bool.and_eq_false_imp, Bool.or_eq_true, Bool.or_eq_false_iff, Bool.and_true, Bool.true_and, Bool.not_true, Bool.not_false, decide_eq_true_eq, decide_eq_false_iff_not, Bool.decide_and] at hc0
    conv => whnf
    refine br_r rfl rfl ?_
    conv => whnf
    refine br_r rfl rfl ?_
    conv => whnf
    refine br_r rfl rfl ?_
    conv => whnf
    refine br_r rfl rfl ?_
    conv => whnf
    refine br_r rfl rfl ?_
    conv => whnf
    refine br_r rfl rfl ?_
    conv => whnf
    refine br_r rfl rfl ?_
    conv => whnf
    refine br_r rfl rfl ?_
    conv => whnf
    refine br_r rfl rfl ?_
    conv => whnf
    refine AV.of_eqv ?_
    conv => whnf
    refine And.intro (by grind) ?_
    exact True.intro
theorem holds_good (st a b c d q w r s t u : Int) : Good Try.prog 52 [eP st a b c d q w, eR r s t u] (.bool (decide (st = 2 ∧ a = t ∧ b = u ∧ c = r ∧ d = s ∧ ¬ (a = 0 ∧ b = 0) ∧ ¬ (c = 0 ∧ d = 0)))) := by
  refine good_at ak52 rfl rfl rfl ?_
  conv => whnf
  refine And.intro (by exact rfl) ?_
  conv => whnf
  refine And.intro (fun hc0 => ?_) (fun hc0 => ?_)
  · replace hc0 := of_decide_eq_true hc0
    conv => whnf
    refine br_l rfl rfl ?_
    conv => whnf
    refine ⟨_, pair_good _ _ _ _ _ _ _, ?_⟩
    conv => whnf
    refine br_l rfl rfl ?_
    conv => whnf
    refine br_l rfl rfl ?_
    conv => whnf
    refine ⟨_, esame_good _ _ _ _ _ _ _ _, ?_⟩
    conv => whnf
    refine br_l rfl rfl ?_
    conv => whnf
    refine AV.of_eqv ?_
    conv => whnf
    refine And.intro (by grind) ?_
    exact True.intro
  · replace hc0 := of_decide_eq_false hc0
    conv => whnf
    refine br_r rfl rfl ?_
    conv => whnf
    refine br_r rfl rfl ?_
    conv => whnf
    refine br_r rfl rfl ?_
    conv => whnf
    refine br_r rfl rfl ?_
    conv => whnf
    refine AV.of_eqv ?_
    conv => whnf
    refine And.intro (by grind) ?_
    exact True.intro
theorem next_good (a b : Int) : Good Try.prog 54 [eE a b] (.tuple [eE (if b = 4294967295 then 0 else a) (if b = 4294967295 then 0 else IntKind.u32.wrap (b + 1)), .int .i64 (if b = 4294967295 then 11 else 0)]) := by
  refine good_at ak54 rfl rfl rfl ?_
  conv => whnf
  refine And.intro (fun hc0 => ?_) (fun hc0 => ?_)
  · replace hc0 := of_decide_eq_true hc0
    conv => whnf
    refine AV.of_eqv ?_
    conv => whnf
    refine And.intro (by omega) ?_
    conv => whnf
    refine And.intro (by omega) ?_
    conv => whnf
    refine And.intro (by omega) ?_
    exact True.intro
  · replace hc0 := of_decide_eq_false hc0
    conv => whnf
    refine AV.of_eqv ?_
    conv => whnf
    refine And.intro (by omega) ?_
    conv => whnf
    refine And.intro (by omega) ?_
    conv => whnf
    refine And.intro (by omega) ?_
    exact True.intro
def hOff (st x h1 h2 : Int) : Prop := st = 0 ∨ ¬ (0 ≤ x ∧ x < 16 ∧ ¬ (h1 = 0 ∧ h2 = 0))
def hUpd (st c d x h1 h2 : Int) : Prop := ¬ hOff st x h1 h2 ∧ ¬ nw c d h1 h2 ∧ ¬ (st = 2 ∧ nw h1 h2 c d)
def hUp (st a b c d x h1 h2 h3 h4 : Int) : Prop := hUpd st c d x h1 h2 ∧ st = 1 ∧ h3 = a ∧ h4 = b ∧ ¬ (a = 0 ∧ b = 0)
instance (a b c d : Int) : Decidable (hOff a b c d) := by unfold hOff; infer_instance
instance (a b c d e f : Int) : Decidable (hUpd a b c d e f) := by unfold hUpd; infer_instance
instance (a b c d e f g h i j : Int) : Decidable (hUp a b c d e f g h i j) := by unfold hUp; infer_instance
abbrev hearR (st a b c d q w x h1 h2 h3 h4 : Int) : AV := .tuple [eP (if hUp st a b c d x h1 h2 h3 h4 then 2 else st) a b (if hUpd st c d x h1 h2 then h1 else c) (if hUpd st c d x h1 h2 then h2 else d) (if hUpd st c d x h1 h2 then 0 else q) w,
  .int .i64 (if hUp st a b c d x h1 h2 h3 h4 then 1 else if hOff st x h1 h2 then 0 else if nw c d h1 h2 then 3 else if hUpd st c d x h1 h2 then 0 else 2)]
theorem hear_good (st a b c d q w x h1 h2 h3 h4 : Int) : Good Try.prog 48 [eP st a b c d q w, eH x h1 h2 h3 h4] (hearR st a b c d q w x h1 h2 h3 h4) := by
  refine good_at ak48 rfl rfl rfl ?_
  conv => whnf
  refine And.intro (fun hc0 => ?_) (fun hc0 => ?_)
  · replace hc0 := of_decide_eq_false hc0
    conv => whnf
    refine br_l rfl rfl ?_
    conv => whnf
    refine ⟨_, right_good _ _ _ _ _, ?_⟩
    conv => whnf
    refine br_l rfl rfl ?_
    conv => whnf
    refine br_r rfl rfl ?_
    conv => whnf
    refine And.intro (fun hc1 => ?_) (fun hc1 => ?_)
    · replace hc1 := of_decide_eq_false (Bool.not_eq_true' _ |>.mp hc1)
      conv => whnf
      refine AV.of_eqv ?_
      conv => whnf
      refine And.intro (by (simp_all [hUp, hUpd, hOff]; done)) ?_
      conv => whnf
      refine And.intro (by with_reducible rfl) ?_
      conv => whnf
      refine And.intro (by with_reducible rfl) ?_
      conv => whnf
      refine And.intro (by (simp_all [hUp, hUpd, hOff]; done)) ?_
      conv => whnf
      refine And.intro (by (simp_all [hUp, hUpd, hOff]; done)) ?_
      conv => whnf
      refine And.intro (by (simp_all [hUp, hUpd, hOff]; done)) ?_
      conv => whnf
      refine And.intro (by with_reducible rfl) ?_
      conv => whnf
      refine And.intro (by with_reducible rfl) ?_
      conv => whnf
      refine And.intro (by with_reducible rfl) ?_
      conv => whnf
      refine And.intro (by with_reducible rfl) ?_
      conv => whnf
      refine And.intro (by with_reducible rfl) ?_
      conv => whnf
      refine And.intro (by with_reducible rfl) ?_
      conv => whnf
      refine And.intro (by (simp_all [hUp, hUpd, hOff]; done)) ?_
      exact True.intro
    · replace hc1 := of_decide_eq_true (Bool.not_eq_false' _ |>.mp hc1)
      conv => whnf
      refine ⟨_, newer_good _ _ _ _, ?_⟩
      conv => whnf
      refine And.intro (fun hc2 => ?_) (fun hc2 => ?_)
      · replace hc2 := of_decide_eq_true hc2
        conv => whnf
        refine AV.of_eqv ?_
        conv => whnf
        refine And.intro (by (simp [hUp, hUpd, hOff, *]; done)) ?_
        conv => whnf
        refine And.intro (by with_reducible rfl) ?_
        conv => whnf
        refine And.intro (by with_reducible rfl) ?_
        conv => whnf
        refine And.intro (by (simp [hUp, hUpd, hOff, *]; done)) ?_
        conv => whnf
        refine And.intro (by (simp [hUp, hUpd, hOff, *]; done)) ?_
        conv => whnf
        refine And.intro (by (simp [hUp, hUpd, hOff, *]; done)) ?_
        conv => whnf
        refine And.intro (by with_reducible rfl) ?_
        conv => whnf
        refine And.intro (by with_reducible rfl) ?_
        conv => whnf
        refine And.intro (by with_reducible rfl) ?_
        conv => whnf
        refine And.intro (by with_reducible rfl) ?_
        conv => whnf
        refine And.intro (by with_reducible rfl) ?_
        conv => whnf
        refine And.intro (by with_reducible rfl) ?_
        conv => whnf
        refine And.intro (by (simp [hUp, hUpd, hOff, *]; done)) ?_
        exact True.intro
      · replace hc2 := of_decide_eq_false hc2
        conv => whnf
        refine And.intro (fun hc3 => ?_) (fun hc3 => ?_)
        · replace hc3 := of_decide_eq_true hc3
          conv => whnf
          refine ⟨_, newer_good _ _ _ _, ?_⟩
          conv => whnf
          refine And.intro (fun hc4 => ?_) (fun hc4 => ?_)
          · replace hc4 := of_decide_eq_true hc4
            conv => whnf
            refine AV.of_eqv ?_
            conv => whnf
            refine And.intro (by omega) ?_
            conv => whnf
            refine And.intro (by with_reducible rfl) ?_
            conv => whnf
            refine And.intro (by with_reducible rfl) ?_
            conv => whnf
            refine And.intro (by (simp [hUp, hUpd, hOff, *]; done)) ?_
            conv => whnf
            refine And.intro (by (simp [hUp, hUpd, hOff, *]; done)) ?_
            conv => whnf
            refine And.intro (by (simp [hUp, hUpd, hOff, *]; done)) ?_
            conv => whnf
            refine And.intro (by with_reducible rfl) ?_
            conv => whnf
            refine And.intro (by with_reducible rfl) ?_
            conv => whnf
            refine And.intro (by with_reducible rfl) ?_
            conv => whnf
            refine And.intro (by with_reducible rfl) ?_
            conv => whnf
            refine And.intro (by with_reducible rfl) ?_
            conv => whnf
            refine And.intro (by with_reducible rfl) ?_
            conv => whnf
            refine And.intro (by (simp [hUp, hUpd, hOff, *]; done)) ?_
            exact True.intro
          · replace hc4 := of_decide_eq_false hc4
            conv => whnf
            refine And.intro (fun hc5 => ?_) (fun hc5 => ?_)
            · replace hc5 := of_decide_eq_true (Bool.not_eq_false' _ |>.mp hc5)
              (exfalso; omega)
            · replace hc5 := of_decide_eq_false (Bool.not_eq_true' _ |>.mp hc5)
              conv => whnf
              refine br_r rfl rfl ?_
              conv => whnf
              refine br_r rfl rfl ?_
              conv => whnf
              refine br_r rfl rfl ?_
              conv => whnf
              refine br_r rfl rfl ?_
              conv => whnf
              refine br_r rfl rfl ?_
              conv => whnf
              refine br_l rfl rfl ?_
              conv => whnf
              refine br_r rfl rfl ?_
              conv => whnf
              refine br_r rfl rfl ?_
              conv => whnf
              refine br_r rfl rfl ?_
              conv => whnf
              refine br_l rfl rfl ?_
              conv => whnf
              refine br_l rfl rfl ?_
              conv => whnf
              refine AV.of_eqv ?_
              conv => whnf
              refine And.intro (by omega) ?_
              conv => whnf
              refine And.intro (by with_reducible rfl) ?_
              conv => whnf
              refine And.intro (by with_reducible rfl) ?_
              conv => whnf
              refine And.intro (by (simp [hUp, hUpd, hOff, *]; done)) ?_
              conv => whnf
              refine And.intro (by (simp [hUp, hUpd, hOff, *]; done)) ?_
              conv => whnf
              refine And.intro (by (simp [hUp, hUpd, hOff, *]; done)) ?_
              conv => whnf
              refine And.intro (by with_reducible rfl) ?_
              conv => whnf
              refine And.intro (by with_reducible rfl) ?_
              conv => whnf
              refine And.intro (by with_reducible rfl) ?_
              conv => whnf
              refine And.intro (by with_reducible rfl) ?_
              conv => whnf
              refine And.intro (by with_reducible rfl) ?_
              conv => whnf
              refine And.intro (by with_reducible rfl) ?_
              conv => whnf
              refine And.intro (by (simp [hUp, hUpd, hOff, *]; done)) ?_
              exact True.intro
        · replace hc3 := of_decide_eq_false hc3
          conv => whnf
          refine And.intro (fun hc6 => ?_) (fun hc6 => ?_)
          · replace hc6 := of_decide_eq_true (Bool.not_eq_false' _ |>.mp hc6)
            conv => whnf
            refine br_l rfl rfl ?_
            conv => whnf
            refine br_l rfl rfl ?_
            conv => whnf
            refine br_l rfl rfl ?_
            conv => whnf
            refine br_l rfl rfl ?_
            conv => whnf
            refine br_l rfl rfl ?_
            conv => whnf
            refine br_r rfl rfl ?_
            conv => whnf
            refine And.intro (fun hc7 => ?_) (fun hc7 => ?_)
            · simp only [Bool.not_eq_true', Bool.not_eq_false', Bool.and_eq_true, Bool.and_eq_false_imp, Bool.or_eq_true, Bool.or_eq_false_iff, Bool.and_true, Bool.true_and, Bool.not_true, Bool.not_false, decide_eq_true_eq, decide_eq_false_iff_not, Bool.decide_and] at hc7
              conv => whnf
              refine br_l rfl rfl ?_
              conv => whnf
              refine br_l rfl rfl ?_
              conv => whnf
              refine ⟨_, none_good _ _, ?_⟩
              conv => whnf
              refine br_r rfl rfl ?_
              conv => whnf
              refine And.intro (fun hc8 => ?_) (fun hc8 => ?_)
              · replace hc8 := of_decide_eq_true hc8
                conv => whnf
                refine AV.of_eqv ?_
                conv => whnf
                refine And.intro (by (simp [hUp, hUpd, hOff, *]; done)) ?_
                conv => whnf
                refine And.intro (by with_reducible rfl) ?_
                conv => whnf
                refine And.intro (by with_reducible rfl) ?_
                conv => whnf
                refine And.intro (by (simp [hUp, hUpd, hOff, *]; done)) ?_
                conv => whnf
                refine And.intro (by (simp [hUp, hUpd, hOff, *]; done)) ?_
                conv => whnf
                refine And.intro (by (simp [hUp, hUpd, hOff, *]; done)) ?_
                conv => whnf
                refine And.intro (by with_reducible rfl) ?_
                conv => whnf
                refine And.intro (by with_reducible rfl) ?_
                conv => whnf
                refine And.intro (by with_reducible rfl) ?_
                conv => whnf
                refine And.intro (by with_reducible rfl) ?_
                conv => whnf
                refine And.intro (by with_reducible rfl) ?_
                conv => whnf
                refine And.intro (by with_reducible rfl) ?_
                conv => whnf
                refine And.intro (by (simp [hUp, hUpd, hOff, *]; done)) ?_
                exact True.intro
              · replace hc8 := of_decide_eq_false hc8
                conv => whnf
                refine AV.of_eqv ?_
                conv => whnf
                refine And.intro (by (simp [hUp, hUpd, hOff, *]; done)) ?_
                conv => whnf
                refine And.intro (by with_reducible rfl) ?_
                conv => whnf
                refine And.intro (by with_reducible rfl) ?_
                conv => whnf
                refine And.intro (by (simp [hUp, hUpd, hOff, *]; done)) ?_
                conv => whnf
                refine And.intro (by (simp [hUp, hUpd, hOff, *]; done)) ?_
                conv => whnf
                refine And.intro (by (simp [hUp, hUpd, hOff, *]; done)) ?_
                conv => whnf
                refine And.intro (by with_reducible rfl) ?_
                conv => whnf
                refine And.intro (by with_reducible rfl) ?_
                conv => whnf
                refine And.intro (by with_reducible rfl) ?_
                conv => whnf
                refine And.intro (by with_reducible rfl) ?_
                conv => whnf
                refine And.intro (by with_reducible rfl) ?_
                conv => whnf
                refine And.intro (by with_reducible rfl) ?_
                conv => whnf
                refine And.intro (by (simp [hUp, hUpd, hOff, *]; done)) ?_
                exact True.intro
            · simp only [Bool.not_eq_true', Bool.not_eq_false', Bool.and_eq_true, Bool.and_eq_false_imp, Bool.or_eq_true, Bool.or_eq_false_iff, Bool.and_true, Bool.true_and, Bool.not_true, Bool.not_false, decide_eq_true_eq, decide_eq_false_iff_not, Bool.decide_and] at hc7
              conv => whnf
              refine br_r rfl rfl ?_
              conv => whnf
              refine br_r rfl rfl ?_
              conv => whnf
              refine br_l rfl rfl ?_
              conv => whnf
              refine br_l rfl rfl ?_
              conv => whnf
              refine AV.of_eqv ?_
              conv => whnf
              refine And.intro (by (simp_all [hUp, hUpd, hOff]; done)) ?_
              conv => whnf
              refine And.intro (by with_reducible rfl) ?_
              conv => whnf
              refine And.intro (by with_reducible rfl) ?_
              conv => whnf
              refine And.intro (by (simp [hUp, hUpd, hOff, *]; done)) ?_
              conv => whnf
              refine And.intro (by (simp [hUp, hUpd, hOff, *]; done)) ?_
              conv => whnf
              refine And.intro (by (simp [hUp, hUpd, hOff, *]; done)) ?_
              conv => whnf
              refine And.intro (by with_reducible rfl) ?_
              conv => whnf
              refine And.intro (by with_reducible rfl) ?_
              conv => whnf
              refine And.intro (by with_reducible rfl) ?_
              conv => whnf
              refine And.intro (by with_reducible rfl) ?_
              conv => whnf
              refine And.intro (by with_reducible rfl) ?_
              conv => whnf
              refine And.intro (by with_reducible rfl) ?_
              conv => whnf
              refine And.intro (by (simp_all [hUp, hUpd, hOff]; done)) ?_
              exact True.intro
          · replace hc6 := of_decide_eq_false (Bool.not_eq_true' _ |>.mp hc6)
            conv => whnf
            refine br_r rfl rfl ?_
            conv => whnf
            refine br_r rfl rfl ?_
            conv => whnf
            refine br_r rfl rfl ?_
            conv => whnf
            refine br_r rfl rfl ?_
            conv => whnf
            refine br_r rfl rfl ?_
            conv => whnf
            refine br_l rfl rfl ?_
            conv => whnf
            refine br_r rfl rfl ?_
            conv => whnf
            refine br_r rfl rfl ?_
            conv => whnf
            refine br_r rfl rfl ?_
            conv => whnf
            refine br_l rfl rfl ?_
            conv => whnf
            refine br_l rfl rfl ?_
            conv => whnf
            refine AV.of_eqv ?_
            conv => whnf
            refine And.intro (by (simp [hUp, hUpd, hOff, *]; done)) ?_
            conv => whnf
            refine And.intro (by with_reducible rfl) ?_
            conv => whnf
            refine And.intro (by with_reducible rfl) ?_
            conv => whnf
            refine And.intro (by (simp [hUp, hUpd, hOff, *]; done)) ?_
            conv => whnf
            refine And.intro (by (simp [hUp, hUpd, hOff, *]; done)) ?_
            conv => whnf
            refine And.intro (by (simp [hUp, hUpd, hOff, *]; done)) ?_
            conv => whnf
            refine And.intro (by with_reducible rfl) ?_
            conv => whnf
            refine And.intro (by with_reducible rfl) ?_
            conv => whnf
            refine And.intro (by with_reducible rfl) ?_
            conv => whnf
            refine And.intro (by with_reducible rfl) ?_
            conv => whnf
            refine And.intro (by with_reducible rfl) ?_
            conv => whnf
            refine And.intro (by with_reducible rfl) ?_
            conv => whnf
            refine And.intro (by (simp [hUp, hUpd, hOff, *]; done)) ?_
            exact True.intro
  · replace hc0 := of_decide_eq_true hc0
    conv => whnf
    refine br_r rfl rfl ?_
    conv => whnf
    refine br_r rfl rfl ?_
    conv => whnf
    refine br_l rfl rfl ?_
    conv => whnf
    refine br_l rfl rfl ?_
    conv => whnf
    refine AV.of_eqv ?_
    conv => whnf
    refine And.intro (by (simp [hUp, hUpd, hOff, *]; done)) ?_
    conv => whnf
    refine And.intro (by with_reducible rfl) ?_
    conv => whnf
    refine And.intro (by with_reducible rfl) ?_
    conv => whnf
    refine And.intro (by (simp [hUp, hUpd, hOff, *]; done)) ?_
    conv => whnf
    refine And.intro (by (simp [hUp, hUpd, hOff, *]; done)) ?_
    conv => whnf
    refine And.intro (by (simp [hUp, hUpd, hOff, *]; done)) ?_
    conv => whnf
    refine And.intro (by with_reducible rfl) ?_
    conv => whnf
    refine And.intro (by with_reducible rfl) ?_
    conv => whnf
    refine And.intro (by with_reducible rfl) ?_
    conv => whnf
    refine And.intro (by with_reducible rfl) ?_
    conv => whnf
    refine And.intro (by with_reducible rfl) ?_
    conv => whnf
    refine And.intro (by with_reducible rfl) ?_
    conv => whnf
    refine And.intro (by (simp [hUp, hUpd, hOff, *]; done)) ?_
    exact True.intro
theorem eqSent_good : Good Try.prog 129 [.sl .sh 4 [], .sl .sh 4 []] (.bool true) := by
  refine good_at ak129 rfl rfl rfl ?_
  conv => whnf
  refine br_r rfl rfl ?_
  conv => whnf
  refine loop_run 300 ?_
  conv => whnf
  refine And.intro (by decide) ?_
  conv => whnf
  refine br_r rfl rfl ?_
  conv => whnf
  refine AV.of_eqv ?_
  conv => whnf
  refine And.intro (by with_reducible rfl) ?_
  exact True.intro
theorem eqItem_good : Good Try.prog 134 [.sl .sh 4 [], .sl .sh 4 []] (.bool true) := by
  refine good_at ak134 rfl rfl rfl ?_
  conv => whnf
  refine br_r rfl rfl ?_
  conv => whnf
  refine loop_run 300 ?_
  conv => whnf
  refine And.intro (by decide) ?_
  conv => whnf
  refine br_r rfl rfl ?_
  conv => whnf
  refine AV.of_eqv ?_
  conv => whnf
  refine And.intro (by with_reducible rfl) ?_
  exact True.intro
theorem eqPart_good : Good Try.prog 118 [.sl .sh 8 [], .sl .sh 8 [], .top] (.bool true) := by
  refine good_at ak118 rfl rfl rfl ?_
  conv => whnf
  refine br_r rfl rfl ?_
  conv => whnf
  refine loop_run 300 ?_
  conv => whnf
  refine And.intro (by decide) ?_
  conv => whnf
  refine br_r rfl rfl ?_
  conv => whnf
  refine AV.of_eqv ?_
  conv => whnf
  refine And.intro (by with_reducible rfl) ?_
  exact True.intro
theorem rsame_good : Good Try.prog 101 [.sl .sh 4 [], .sl .sh 4 []] (.bool true) := by
  refine good_at ak101 rfl rfl rfl ?_
  conv => whnf
  refine ⟨_, eqSent_good, ?_⟩
  conv => whnf
  refine AV.of_eqv ?_
  conv => whnf
  refine And.intro (by with_reducible rfl) ?_
  exact True.intro
theorem wsame_good : Good Try.prog 80 [.agg [.int .i64 0, .sl .sh 8 []], .agg [.int .i64 0, .sl .sh 8 []]] (.bool true) := by
  refine good_at ak80 rfl rfl rfl ?_
  conv => whnf
  refine br_l rfl rfl ?_
  conv => whnf
  refine br_l rfl rfl ?_
  conv => whnf
  refine br_l rfl rfl ?_
  conv => whnf
  refine br_l rfl rfl ?_
  conv => whnf
  refine br_l rfl rfl ?_
  conv => whnf
  refine ⟨_, eqPart_good, ?_⟩
  conv => whnf
  refine br_l rfl rfl ?_
  conv => whnf
  refine AV.of_eqv ?_
  conv => whnf
  refine And.intro (by with_reducible rfl) ?_
  exact True.intro
abbrev eB : AV := .agg [.int .i64 0, .sl .sh 4 [], .int .i64 0, .sl .sh 8 [], .sl .sh 4 []]
theorem bsame_good : Good Try.prog 130 [eB, eB] (.bool true) := by
  refine good_at ak130 rfl rfl rfl ?_
  conv => whnf
  refine br_l rfl rfl ?_
  conv => whnf
  refine br_l rfl rfl ?_
  conv => whnf
  refine br_l rfl rfl ?_
  conv => whnf
  refine br_l rfl rfl ?_
  conv => whnf
  refine br_l rfl rfl ?_
  conv => whnf
  refine ⟨_, rsame_good, ?_⟩
  conv => whnf
  refine br_l rfl rfl ?_
  conv => whnf
  refine br_l rfl rfl ?_
  conv => whnf
  refine br_l rfl rfl ?_
  conv => whnf
  refine br_l rfl rfl ?_
  conv => whnf
  refine br_l rfl rfl ?_
  conv => whnf
  refine br_l rfl rfl ?_
  conv => whnf
  refine ⟨_, wsame_good, ?_⟩
  conv => whnf
  refine br_l rfl rfl ?_
  conv => whnf
  refine br_l rfl rfl ?_
  conv => whnf
  refine br_l rfl rfl ?_
  conv => whnf
  refine br_l rfl rfl ?_
  conv => whnf
  refine br_l rfl rfl ?_
  conv => whnf
  refine br_l rfl rfl ?_
  conv => whnf
  refine ⟨_, eqItem_good, ?_⟩
  conv => whnf
  refine br_l rfl rfl ?_
  conv => whnf
  refine AV.of_eqv ?_
  conv => whnf
  refine And.intro (by with_reducible rfl) ?_
  exact True.intro
theorem same_good (st a b c d q w st' a' b' c' d' q' w' : Int) : Good Try.prog 103 [eP st a b c d q w, eP st' a' b' c' d' q' w'] (.bool (decide (st = st' ∧ a = a' ∧ b = b' ∧ c = c' ∧ d = d' ∧ q = q' ∧ w = w'))) := by
  refine good_at ak103 rfl rfl rfl ?_
  conv => whnf
  refine And.intro (by exact rfl) ?_
  conv => whnf
  refine And.intro (fun hc0 => ?_) (fun hc0 => ?_)
  · replace hc0 := of_decide_eq_true hc0
    conv => whnf
    refine br_l rfl rfl ?_
    conv => whnf
    refine ⟨_, pair_good _ _ _ _ _ _ _, ?_⟩
    conv => whnf
    refine br_l rfl rfl ?_
    conv => whnf
    refine br_l rfl rfl ?_
    conv => whnf
    refine ⟨_, pair_good _ _ _ _ _ _ _, ?_⟩
    conv => whnf
    refine br_l rfl rfl ?_
    conv => whnf
    refine br_l rfl rfl ?_
    conv => whnf
    refine And.intro (fun hc1 => ?_) (fun hc1 => ?_)
    · simp only [Bool.not_eq_true', Bool.not_eq_false', Bool.and_eq_true, Bool.and_eq_false_imp, Bool.or_eq_true, Bool.or_eq_false_iff, Bool.and_true, Bool.true_and, Bool.not_true, Bool.not_false, decide_eq_true_eq, decide_eq_false_iff_not, Bool.decide_and] at hc1
      conv => whnf
      refine br_l rfl rfl ?_
      conv => whnf
      refine br_l rfl rfl ?_
      conv => whnf
      refine br_l rfl rfl ?_
      conv => whnf
      refine br_l rfl rfl ?_
      conv => whnf
      refine br_l rfl rfl ?_
      conv => whnf
      refine And.intro (fun hc2 => ?_) (fun hc2 => ?_)
      · replace hc2 := of_decide_eq_true hc2
        conv => whnf
        refine br_l rfl rfl ?_
        conv => whnf
        refine br_l rfl rfl ?_
        conv => whnf
        refine br_l rfl rfl ?_
        conv => whnf
        refine br_l rfl rfl ?_
        conv => whnf
        refine br_l rfl rfl ?_
        conv => whnf
        refine And.intro (fun hc3 => ?_) (fun hc3 => ?_)
        · replace hc3 := of_decide_eq_true hc3
          conv => whnf
          refine br_l rfl rfl ?_
          conv => whnf
          refine br_l rfl rfl ?_
          conv => whnf
          refine br_l rfl rfl ?_
          conv => whnf
          refine br_l rfl rfl ?_
          conv => whnf
          refine ⟨_, bsame_good, ?_⟩
          conv => whnf
          refine br_l rfl rfl ?_
          conv => whnf
          refine AV.of_eqv ?_
          conv => whnf
          refine And.intro (by (simp [*]; done)) ?_
          exact True.intro
        · replace hc3 := of_decide_eq_false hc3
          conv => whnf
          refine br_r rfl rfl ?_
          conv => whnf
          refine br_r rfl rfl ?_
          conv => whnf
          refine br_r rfl rfl ?_
          conv => whnf
          refine br_r rfl rfl ?_
          conv => whnf
          refine br_r rfl rfl ?_
          conv => whnf
          refine AV.of_eqv ?_
          conv => whnf
          refine And.intro (by (simp [*]; done)) ?_
          exact True.intro
      · replace hc2 := of_decide_eq_false hc2
        conv => whnf
        refine br_r rfl rfl ?_
        conv => whnf
        refine br_r rfl rfl ?_
        conv => whnf
        refine br_r rfl rfl ?_
        conv => whnf
        refine br_r rfl rfl ?_
        conv => whnf
        refine br_r rfl rfl ?_
        conv => whnf
        refine br_r rfl rfl ?_
        conv => whnf
        refine br_r rfl rfl ?_
        conv => whnf
        refine br_r rfl rfl ?_
        conv => whnf
        refine br_r rfl rfl ?_
        conv => whnf
        refine br_r rfl rfl ?_
        conv => whnf
        refine br_r rfl rfl ?_
        conv => whnf
        refine AV.of_eqv ?_
        conv => whnf
        refine And.intro (by (simp [*]; done)) ?_
        exact True.intro
    · simp only [Bool.not_eq_true', Bool.not_eq_false', Bool.and_eq_true, Bool.and_eq_false_imp, Bool.or_eq_true, Bool.or_eq_false_iff, Bool.and_true, Bool.true_and, Bool.not_true, Bool.not_false, decide_eq_true_eq, decide_eq_false_iff_not, Bool.decide_and] at hc1
      conv => whnf
      refine br_r rfl rfl ?_
      conv => whnf
      refine br_r rfl rfl ?_
      conv => whnf
      refine br_r rfl rfl ?_
      conv => whnf
      refine br_r rfl rfl ?_
      conv => whnf
      refine br_r rfl rfl ?_
      conv => whnf
      refine br_r rfl rfl ?_
      conv => whnf
      refine br_r rfl rfl ?_
      conv => whnf
      refine br_r rfl rfl ?_
      conv => whnf
      refine br_r rfl rfl ?_
      conv => whnf
      refine br_r rfl rfl ?_
      conv => whnf
      refine br_r rfl rfl ?_
      conv => whnf
      refine br_r rfl rfl ?_
      conv => whnf
      refine br_r rfl rfl ?_
      conv => whnf
      refine br_r rfl rfl ?_
      conv => whnf
      refine br_r rfl rfl ?_
      conv => whnf
      refine br_r rfl rfl ?_
      conv => whnf
      refine br_r rfl rfl ?_
      conv => whnf
      refine AV.of_eqv ?_
      conv => whnf
      refine And.intro (by (simp_all; done)) ?_
      exact True.intro
  · replace hc0 := of_decide_eq_false hc0
    conv => whnf
    refine br_r rfl rfl ?_
    conv => whnf
    refine br_r rfl rfl ?_
    conv => whnf
    refine br_r rfl rfl ?_
    conv => whnf
    refine br_r rfl rfl ?_
    conv => whnf
    refine br_r rfl rfl ?_
    conv => whnf
    refine br_r rfl rfl ?_
    conv => whnf
    refine br_r rfl rfl ?_
    conv => whnf
    refine br_r rfl rfl ?_
    conv => whnf
    refine br_r rfl rfl ?_
    conv => whnf
    refine br_r rfl rfl ?_
    conv => whnf
    refine br_r rfl rfl ?_
    conv => whnf
    refine br_r rfl rfl ?_
    conv => whnf
    refine br_r rfl rfl ?_
    conv => whnf
    refine br_r rfl rfl ?_
    conv => whnf
    refine br_r rfl rfl ?_
    conv => whnf
    refine br_r rfl rfl ?_
    conv => whnf
    refine br_r rfl rfl ?_
    conv => whnf
    refine br_r rfl rfl ?_
    conv => whnf
    refine br_r rfl rfl ?_
    conv => whnf
    refine br_r rfl rfl ?_
    conv => whnf
    refine br_r rfl rfl ?_
    conv => whnf
    refine br_r rfl rfl ?_
    conv => whnf
    refine br_r rfl rfl ?_
    conv => whnf
    refine AV.of_eqv ?_
    conv => whnf
    refine And.intro (by (simp [*]; done)) ?_
    exact True.intro
end Go.Proofs.Ytmchbkmenokkdaa

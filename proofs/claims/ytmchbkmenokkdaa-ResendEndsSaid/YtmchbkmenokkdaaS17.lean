/- The law ResendEnds: what it calls, and its contract. -/
import Derived.Test.YtmchbkmenokkdaaS17c
set_option maxRecDepth 100000
set_option linter.unusedSimpArgs false
set_option linter.unusedVariables false
namespace Go.Proofs.Ytmchbkmenokkdaa
open Go.RowKit
set_option maxHeartbeats 4000000
theorem flat_dec {xs : List (List AV)} (h : (xs.all fun r => r.all AV.flat) = true) : flatRows xs := by
  intro x hx c hc
  exact List.all_eq_true.1 (List.all_eq_true.1 h x hx) c hc
theorem rules_good : Good Try.prog 40 [] (.agg [.int .i64 2, .int .i64 8, .int .i64 2, .int .i64 3]) := by
  apply good_at ak40 rfl rfl rfl
  conv => whnf
  refine AV.of_eqv ?_
  conv => whnf
  refine And.intro (by with_reducible rfl) ?_
  conv => whnf
  refine And.intro (by with_reducible rfl) ?_
  conv => whnf
  refine And.intro (by with_reducible rfl) ?_
  conv => whnf
  refine And.intro (by with_reducible rfl) ?_
  exact True.intro
theorem right15_good (n : Int) : Good Try.prog 99 [.int .i64 n] (.bool (decide (0 ≤ n ∧ n ≤ 65535))) := by
  apply good_at ak99 rfl rfl rfl
  conv => whnf
  refine And.intro (fun hc0 => ?_) (fun hc0 => ?_)
  · replace hc0 := of_decide_eq_true hc0
    conv => whnf
    refine br_l rfl rfl ?_
    conv => whnf
    refine br_l rfl rfl ?_
    conv => whnf
    refine AV.of_eqv ?_
    conv => whnf
    refine And.intro (by exact decide_eq_decide.2 (by omega)) ?_
    exact True.intro
  · replace hc0 := of_decide_eq_false hc0
    conv => whnf
    refine br_r rfl rfl ?_
    conv => whnf
    refine br_r rfl rfl ?_
    conv => whnf
    refine AV.of_eqv ?_
    conv => whnf
    refine And.intro (by exact (decide_eq_false (by omega)).symm) ?_
    exact True.intro
abbrev rowS (q : Int) (b : List UInt8) (t f : Int) : List AV := [.int .i64 q, .str b, .int .i64 t, .int .i64 f]
abbrev rul (a b c d : Int) : AV := .agg [.int .i64 a, .int .i64 b, .int .i64 c, .int .i64 d]
theorem add_one (q : Int) (b : List UInt8) (H D R T : Int) (hq : 0 ≤ q ∧ q ≤ 65535) (hR : 1 ≤ R) : Good Try.prog 41 [.sl .sh 4 [], .int .i64 q, .str b, rul H D R T] (.tuple [.sl .sh 4 [rowS q b 1 R], .int .i64 0]) := by
  apply good_sh ak41 rfl rfl rfl
  conv => whnf
  refine ⟨_, right15_good _, ?_⟩
  conv => whnf
  refine And.intro (fun hc0 => ?_) (fun hc0 => ?_)
  · replace hc0 := of_decide_eq_true (Bool.not_eq_false' _ |>.mp hc0)
    conv => whnf
    refine br_l rfl rfl ?_
    conv => whnf
    refine br_l rfl rfl ?_
    conv => whnf
    refine br_r rfl rfl ?_
    conv => whnf
    refine And.intro (fun hc1 => ?_) (fun hc1 => ?_)
    · replace hc1 := of_decide_eq_true hc1
      (exfalso; omega)
    · replace hc1 := of_decide_eq_false hc1
      conv => whnf
      refine br_r rfl rfl ?_
      conv => whnf
      refine loop_run 300 ?_
      conv => whnf
      refine ⟨[], ?_⟩
      refine And.intro (by exact rfl) ?_
      conv => whnf
      refine br_r rfl rfl ?_
      conv => whnf
      refine And.intro (by decide) ?_
      refine And.intro (by decide) ?_
      refine And.intro (by decide) ?_
      conv => whnf
      refine And.intro (by (simp [maxLen_eq]; done)) ?_
      refine And.intro (by (simp [maxLen_eq]; done)) ?_
      refine And.intro (by (simp [maxLen_eq]; done)) ?_
      conv => whnf
      refine AV.of_eqv ?_
      conv => whnf
      refine And.intro (by (simp [maxLen_eq]; done)) ?_
      conv => whnf
      refine And.intro (by with_reducible rfl) ?_
      exact True.intro
  · replace hc0 := of_decide_eq_false (Bool.not_eq_true' _ |>.mp hc0)
    contradiction
theorem tick_none (H D R T : Int) : Good Try.prog 42 [.sl .sh 4 [], rul H D R T] (.tuple [.sl .sh 4 [], .sl .sh 1 [], .bool false]) := by
  apply good_sh ak42 rfl rfl rfl
  conv => whnf
  refine And.intro (by decide) ?_
  refine And.intro (by decide) ?_
  refine And.intro (by (intro x hx; cases hx)) ?_
  conv => whnf
  refine loop_run 300 ?_
  conv => whnf
  refine ⟨[], ?_⟩
  refine And.intro (by exact rfl) ?_
  conv => whnf
  refine br_r rfl rfl ?_
  conv => whnf
  refine And.intro (by with_reducible rfl) ?_
  refine And.intro (by with_reducible rfl) ?_
  refine And.intro (by decide) ?_
  refine And.intro (by (intro x hx; cases hx)) ?_
  conv => whnf
  refine AV.of_eqv ?_
  conv => whnf
  refine And.intro (by decide) ?_
  conv => whnf
  refine And.intro (by with_reducible rfl) ?_
  conv => whnf
  refine And.intro (by with_reducible rfl) ?_
  exact True.intro
theorem tick_left (q : Int) (b : List UInt8) (t f H D R T : Int) (h : 1 < f) (h2 : f ≤ 1000) : Good Try.prog 42 [.sl .sh 4 [rowS q b t f], rul H D R T] (.tuple [.sl .sh 4 [rowS q b t (f - 1)], .sl .sh 1 [], .bool false]) := by
  apply good_sh ak42 rfl rfl rfl
  conv => whnf
  refine And.intro (by (simp [maxLen_eq]; done)) ?_
  refine And.intro (by (simp [maxLen_eq]; done)) ?_
  refine And.intro (by (intro x hx c hc; simp at hx; subst hx; simp at hc; rcases hc with rfl | rfl | rfl | rfl <;> rfl)) ?_
  conv => whnf
  refine loop_run 300 ?_
  conv => whnf
  refine ⟨[], ?_⟩
  refine And.intro (by exact rfl) ?_
  conv => whnf
  refine br_l rfl rfl ?_
  conv => whnf
  refine And.intro (by decide) ?_
  refine And.intro (by decide) ?_
  refine And.intro (by (simp [maxLen_eq]; done)) ?_
  conv => whnf
  with_reducible refine ⟨_, rfl, ?_⟩
  conv => whnf
  refine And.intro (fun hc1 => ?_) (fun hc1 => ?_)
  · replace hc1 := of_decide_eq_true hc1
    conv => whnf
    refine And.intro (by decide) ?_
    refine And.intro (by decide) ?_
    refine And.intro (by (simp [maxLen_eq]; done)) ?_
    conv => whnf
    with_reducible refine ⟨_, rfl, ?_⟩
    conv => whnf
    refine And.intro (by decide) ?_
    refine And.intro (by decide) ?_
    refine And.intro (by (simp [maxLen_eq]; done)) ?_
    conv => whnf
    with_reducible refine ⟨_, rfl, ?_⟩
    conv => whnf
    refine ⟨[], ?_⟩
    refine And.intro (by exact rfl) ?_
    conv => whnf
    refine br_r rfl rfl ?_
    conv => whnf
    refine And.intro (by with_reducible rfl) ?_
    refine And.intro (by with_reducible rfl) ?_
    refine And.intro (by (simp [maxLen_eq]; done)) ?_
    refine And.intro (by (intro x hx c hc; simp at hx; subst hx; simp at hc; rcases hc with rfl | rfl | rfl | rfl <;> rfl)) ?_
    conv => whnf
    refine AV.of_eqv ?_
    conv => whnf
    refine And.intro (by (simp [wrap_i64]; omega)) ?_
    conv => whnf
    refine And.intro (by with_reducible rfl) ?_
    conv => whnf
    refine And.intro (by with_reducible rfl) ?_
    exact True.intro
  · replace hc1 := of_decide_eq_false hc1
    contradiction
theorem tick_dead (q : Int) (b : List UInt8) (t f H D R T : Int) (h : ¬ 1 < f) (h2 : T ≤ t) : Good Try.prog 42 [.sl .sh 4 [rowS q b t f], rul H D R T] (.tuple [.sl .sh 4 [rowS q b t f], .sl .sh 1 [], .bool true]) := by
  apply good_sh ak42 rfl rfl rfl
  conv => whnf
  refine And.intro (by (simp [maxLen_eq]; done)) ?_
  refine And.intro (by (simp [maxLen_eq]; done)) ?_
  refine And.intro (by (intro x hx c hc; simp at hx; subst hx; simp at hc; rcases hc with rfl | rfl | rfl | rfl <;> rfl)) ?_
  conv => whnf
  refine loop_run 300 ?_
  conv => whnf
  refine ⟨[], ?_⟩
  refine And.intro (by exact rfl) ?_
  conv => whnf
  refine br_l rfl rfl ?_
  conv => whnf
  refine And.intro (by decide) ?_
  refine And.intro (by decide) ?_
  refine And.intro (by (simp [maxLen_eq]; done)) ?_
  conv => whnf
  with_reducible refine ⟨_, rfl, ?_⟩
  conv => whnf
  refine And.intro (fun hc1 => ?_) (fun hc1 => ?_)
  · replace hc1 := of_decide_eq_true hc1
    contradiction
  · replace hc1 := of_decide_eq_false hc1
    conv => whnf
    refine And.intro (by exact rfl) ?_
    conv => whnf
    refine And.intro (by decide) ?_
    refine And.intro (by decide) ?_
    refine And.intro (by (simp [maxLen_eq]; done)) ?_
    conv => whnf
    with_reducible refine ⟨_, rfl, ?_⟩
    conv => whnf
    refine And.intro (fun hc3 => ?_) (fun hc3 => ?_)
    · replace hc3 := of_decide_eq_true hc3
      conv => whnf
      refine ⟨[], ?_⟩
      refine And.intro (by exact rfl) ?_
      conv => whnf
      refine br_r rfl rfl ?_
      conv => whnf
      refine And.intro (by with_reducible rfl) ?_
      refine And.intro (by with_reducible rfl) ?_
      refine And.intro (by omega) ?_
      refine And.intro (by (intro x hx c hc; simp at hx; subst hx; simp at hc; rcases hc with rfl | rfl | rfl | rfl <;> rfl)) ?_
      conv => whnf
      refine AV.of_eqv ?_
      conv => whnf
      refine And.intro (by (simp [maxLen_eq]; done)) ?_
      conv => whnf
      refine And.intro (by with_reducible rfl) ?_
      conv => whnf
      refine And.intro (by with_reducible rfl) ?_
      exact True.intro
    · replace hc3 := of_decide_eq_false hc3
      contradiction
theorem tick_again (q : Int) (b : List UInt8) (t f H D R T : Int) (h : ¬ 1 < f) (h2 : ¬ T ≤ t) (h3 : 0 ≤ t) (h4 : t ≤ 1000) : Good Try.prog 42 [.sl .sh 4 [rowS q b t f], rul H D R T] (.tuple [.sl .sh 4 [rowS q b (t + 1) R], .sl .sh 1 [[.str b]], .bool false]) := by
  apply good_sh ak42 rfl rfl rfl
  conv => whnf
  refine And.intro (by (simp [maxLen_eq]; done)) ?_
  refine And.intro (by (simp [maxLen_eq]; done)) ?_
  refine And.intro (by (intro x hx c hc; simp at hx; subst hx; simp at hc; rcases hc with rfl | rfl | rfl | rfl <;> rfl)) ?_
  conv => whnf
  refine loop_run 300 ?_
  conv => whnf
  refine ⟨[], ?_⟩
  refine And.intro (by exact rfl) ?_
  conv => whnf
  refine br_l rfl rfl ?_
  conv => whnf
  refine And.intro (by decide) ?_
  refine And.intro (by decide) ?_
  refine And.intro (by (simp [maxLen_eq]; done)) ?_
  conv => whnf
  with_reducible refine ⟨_, rfl, ?_⟩
  conv => whnf
  refine And.intro (fun hc1 => ?_) (fun hc1 => ?_)
  · replace hc1 := of_decide_eq_true hc1
    contradiction
  · replace hc1 := of_decide_eq_false hc1
    conv => whnf
    refine And.intro (by exact rfl) ?_
    conv => whnf
    refine And.intro (by decide) ?_
    refine And.intro (by decide) ?_
    refine And.intro (by (simp [maxLen_eq]; done)) ?_
    conv => whnf
    with_reducible refine ⟨_, rfl, ?_⟩
    conv => whnf
    refine And.intro (fun hc3 => ?_) (fun hc3 => ?_)
    · replace hc3 := of_decide_eq_true hc3
      contradiction
    · replace hc3 := of_decide_eq_false hc3
      conv => whnf
      refine And.intro (by decide) ?_
      refine And.intro (by decide) ?_
      refine And.intro (by (simp [maxLen_eq]; done)) ?_
      conv => whnf
      with_reducible refine ⟨_, rfl, ?_⟩
      conv => whnf
      refine And.intro (by decide) ?_
      refine And.intro (by decide) ?_
      refine And.intro (by (simp [maxLen_eq]; done)) ?_
      conv => whnf
      with_reducible refine ⟨_, rfl, ?_⟩
      conv => whnf
      refine And.intro (by decide) ?_
      refine And.intro (by decide) ?_
      refine And.intro (by (simp [maxLen_eq]; done)) ?_
      conv => whnf
      with_reducible refine ⟨_, rfl, ?_⟩
      conv => whnf
      refine And.intro (by decide) ?_
      refine And.intro (by decide) ?_
      refine And.intro (by (simp [maxLen_eq]; done)) ?_
      conv => whnf
      with_reducible refine ⟨_, rfl, ?_⟩
      conv => whnf
      refine And.intro (by (simp [maxLen_eq]; done)) ?_
      refine And.intro (by (simp [maxLen_eq]; done)) ?_
      refine And.intro (by (simp [maxLen_eq]; done)) ?_
      conv => whnf
      refine ⟨[], ?_⟩
      refine And.intro (by exact rfl) ?_
      conv => whnf
      refine br_r rfl rfl ?_
      conv => whnf
      refine And.intro (by with_reducible rfl) ?_
      refine And.intro (by with_reducible rfl) ?_
      refine And.intro (by (simp [maxLen_eq]; done)) ?_
      refine And.intro (by (intro x hx c hc; simp at hx; subst hx; simp at hc; rcases hc with rfl | rfl | rfl | rfl <;> rfl)) ?_
      conv => whnf
      refine AV.of_eqv ?_
      conv => whnf
      refine And.intro (by (simp [wrap_i64]; omega)) ?_
      conv => whnf
      refine And.intro (by (simp [maxLen_eq]; done)) ?_
      conv => whnf
      refine And.intro (by with_reducible rfl) ?_
      exact True.intro
theorem awake17_good : Good Try.prog 44 [] (.bool true) := by
  apply good_at ak44 rfl rfl rfl
  conv => whnf
  apply ex_and
  · apply good_at ak40 rfl rfl rfl
    (conv => whnf) <;> with_reducible rfl
  · conv => whnf
    apply ex_and
    · apply good_at ak41 rfl rfl rfl
      conv => whnf
      apply ex_and
      · apply good_at ak99 rfl rfl rfl
        conv => whnf
        refine br_l rfl rfl ?_
        conv => whnf
        refine br_l rfl rfl ?_
        conv => whnf
        refine br_l rfl rfl ?_
        (conv => whnf) <;> with_reducible rfl
      · conv => whnf
        refine br_l rfl rfl ?_
        conv => whnf
        refine br_l rfl rfl ?_
        conv => whnf
        refine br_l rfl rfl ?_
        conv => whnf
        refine br_r rfl rfl ?_
        conv => whnf
        refine br_r rfl rfl ?_
        conv => whnf
        refine br_r rfl rfl ?_
        conv => whnf
        refine loop_run 300 ?_
        conv => whnf
        refine ⟨[], ?_⟩
        refine And.intro (by decide) ?_
        conv => whnf
        refine br_r rfl rfl ?_
        conv => whnf
        refine And.intro (by decide) ?_
        refine And.intro (by decide) ?_
        refine And.intro (by decide) ?_
        conv => whnf
        refine And.intro (by decide) ?_
        refine And.intro (by decide) ?_
        refine And.intro (by decide) ?_
        (conv => whnf) <;> with_reducible rfl
    · conv => whnf
      apply ex_and
      · apply good_at ak40 rfl rfl rfl
        (conv => whnf) <;> with_reducible rfl
      · conv => whnf
        apply ex_and
        · apply good_at ak41 rfl rfl rfl
          conv => whnf
          apply ex_and
          · apply good_at ak99 rfl rfl rfl
            conv => whnf
            refine br_l rfl rfl ?_
            conv => whnf
            refine br_l rfl rfl ?_
            conv => whnf
            refine br_l rfl rfl ?_
            (conv => whnf) <;> with_reducible rfl
          · conv => whnf
            refine br_l rfl rfl ?_
            conv => whnf
            refine br_l rfl rfl ?_
            conv => whnf
            refine br_l rfl rfl ?_
            conv => whnf
            refine br_r rfl rfl ?_
            conv => whnf
            refine br_r rfl rfl ?_
            conv => whnf
            refine br_r rfl rfl ?_
            conv => whnf
            refine loop_run 300 ?_
            conv => whnf
            refine ⟨[], ?_⟩
            refine And.intro (by decide) ?_
            conv => whnf
            refine br_l rfl rfl ?_
            conv => whnf
            refine And.intro (by decide) ?_
            with_reducible refine ⟨_, rfl, ?_⟩
            conv => whnf
            refine br_r rfl rfl ?_
            conv => whnf
            refine ⟨[], ?_⟩
            refine And.intro (by decide) ?_
            conv => whnf
            refine br_r rfl rfl ?_
            conv => whnf
            refine And.intro (by decide) ?_
            refine And.intro (by decide) ?_
            refine And.intro (by decide) ?_
            conv => whnf
            refine And.intro (by decide) ?_
            refine And.intro (by decide) ?_
            refine And.intro (by decide) ?_
            (conv => whnf) <;> with_reducible rfl
        · conv => whnf
          apply ex_and
          · apply good_at ak40 rfl rfl rfl
            (conv => whnf) <;> with_reducible rfl
          · conv => whnf
            apply ex_and
            · apply good_at ak41 rfl rfl rfl
              conv => whnf
              apply ex_and
              · apply good_at ak99 rfl rfl rfl
                conv => whnf
                refine br_l rfl rfl ?_
                conv => whnf
                refine br_l rfl rfl ?_
                conv => whnf
                refine br_l rfl rfl ?_
                (conv => whnf) <;> with_reducible rfl
              · conv => whnf
                refine br_l rfl rfl ?_
                conv => whnf
                refine br_l rfl rfl ?_
                conv => whnf
                refine br_l rfl rfl ?_
                conv => whnf
                refine br_r rfl rfl ?_
                conv => whnf
                refine br_r rfl rfl ?_
                conv => whnf
                refine br_r rfl rfl ?_
                conv => whnf
                refine loop_run 300 ?_
                conv => whnf
                refine ⟨[], ?_⟩
                refine And.intro (by decide) ?_
                conv => whnf
                refine br_l rfl rfl ?_
                conv => whnf
                refine And.intro (by decide) ?_
                with_reducible refine ⟨_, rfl, ?_⟩
                conv => whnf
                refine br_r rfl rfl ?_
                conv => whnf
                refine ⟨[], ?_⟩
                refine And.intro (by decide) ?_
                conv => whnf
                refine br_l rfl rfl ?_
                conv => whnf
                refine And.intro (by decide) ?_
                with_reducible refine ⟨_, rfl, ?_⟩
                conv => whnf
                refine br_l rfl rfl ?_
                (conv => whnf) <;> with_reducible rfl
            · conv => whnf
              apply ex_and
              · apply good_at ak43 rfl rfl rfl
                conv => whnf
                refine loop_run 300 ?_
                conv => whnf
                refine ⟨[], ?_⟩
                refine And.intro (by decide) ?_
                conv => whnf
                refine br_l rfl rfl ?_
                conv => whnf
                refine And.intro (by decide) ?_
                with_reducible refine ⟨_, rfl, ?_⟩
                conv => whnf
                apply ex_and
                · apply good_at ak82 rfl rfl rfl
                  conv => whnf
                  refine br_l rfl rfl ?_
                  (conv => whnf) <;> with_reducible rfl
                · conv => whnf
                  refine br_r rfl rfl ?_
                  conv => whnf
                  refine ⟨[], ?_⟩
                  refine And.intro (by decide) ?_
                  conv => whnf
                  refine br_l rfl rfl ?_
                  conv => whnf
                  refine And.intro (by decide) ?_
                  with_reducible refine ⟨_, rfl, ?_⟩
                  conv => whnf
                  apply ex_and
                  · apply good_at ak82 rfl rfl rfl
                    conv => whnf
                    refine br_r rfl rfl ?_
                    conv => whnf
                    refine br_r rfl rfl ?_
                    conv => whnf
                    refine br_r rfl rfl ?_
                    conv => whnf
                    refine And.intro (by decide) ?_
                    conv => whnf
                    apply ex_and
                    · apply good_at ak121 rfl rfl rfl
                      (conv => whnf) <;> with_reducible rfl
                    · conv => whnf
                      refine br_r rfl rfl ?_
                      conv => whnf
                      refine And.intro (by decide) ?_
                      conv => whnf
                      apply ex_and
                      · apply good_at ak121 rfl rfl rfl
                        (conv => whnf) <;> with_reducible rfl
                      · conv => whnf
                        refine And.intro (by decide) ?_
                        with_reducible refine ⟨_, rfl, ?_⟩
                        (conv => whnf) <;> with_reducible rfl
                  · conv => whnf
                    refine br_l rfl rfl ?_
                    conv => whnf
                    refine And.intro (by decide) ?_
                    refine And.intro (by decide) ?_
                    refine And.intro (by decide) ?_
                    conv => whnf
                    refine ⟨[], ?_⟩
                    refine And.intro (by decide) ?_
                    conv => whnf
                    refine br_r rfl rfl ?_
                    (conv => whnf) <;> with_reducible rfl
              · conv => whnf
                apply ex_and
                · apply good_at ak40 rfl rfl rfl
                  (conv => whnf) <;> with_reducible rfl
                · conv => whnf
                  apply ex_and
                  · apply good_at ak42 rfl rfl rfl
                    conv => whnf
                    refine And.intro (by decide) ?_
                    refine And.intro (by decide) ?_
                    refine And.intro (by (exact flat_dec rfl)) ?_
                    conv => whnf
                    refine loop_run 300 ?_
                    conv => whnf
                    refine ⟨[], ?_⟩
                    refine And.intro (by decide) ?_
                    conv => whnf
                    refine br_l rfl rfl ?_
                    conv => whnf
                    refine And.intro (by decide) ?_
                    refine And.intro (by decide) ?_
                    refine And.intro (by decide) ?_
                    conv => whnf
                    with_reducible refine ⟨_, rfl, ?_⟩
                    conv => whnf
                    refine br_l rfl rfl ?_
                    conv => whnf
                    refine And.intro (by decide) ?_
                    refine And.intro (by decide) ?_
                    refine And.intro (by decide) ?_
                    conv => whnf
                    with_reducible refine ⟨_, rfl, ?_⟩
                    conv => whnf
                    refine And.intro (by decide) ?_
                    refine And.intro (by decide) ?_
                    refine And.intro (by decide) ?_
                    conv => whnf
                    with_reducible refine ⟨_, rfl, ?_⟩
                    conv => whnf
                    refine ⟨[], ?_⟩
                    refine And.intro (by decide) ?_
                    conv => whnf
                    refine br_l rfl rfl ?_
                    conv => whnf
                    refine And.intro (by decide) ?_
                    refine And.intro (by decide) ?_
                    refine And.intro (by decide) ?_
                    conv => whnf
                    with_reducible refine ⟨_, rfl, ?_⟩
                    conv => whnf
                    refine br_l rfl rfl ?_
                    conv => whnf
                    refine And.intro (by decide) ?_
                    refine And.intro (by decide) ?_
                    refine And.intro (by decide) ?_
                    conv => whnf
                    with_reducible refine ⟨_, rfl, ?_⟩
                    conv => whnf
                    refine And.intro (by decide) ?_
                    refine And.intro (by decide) ?_
                    refine And.intro (by decide) ?_
                    conv => whnf
                    with_reducible refine ⟨_, rfl, ?_⟩
                    conv => whnf
                    refine ⟨[], ?_⟩
                    refine And.intro (by decide) ?_
                    conv => whnf
                    refine br_r rfl rfl ?_
                    conv => whnf
                    refine And.intro (by with_reducible rfl) ?_
                    refine And.intro (by with_reducible rfl) ?_
                    refine And.intro (by decide) ?_
                    refine And.intro (by (exact flat_dec rfl)) ?_
                    (conv => whnf) <;> with_reducible rfl
                  · conv => whnf
                    apply ex_and
                    · apply good_at ak40 rfl rfl rfl
                      (conv => whnf) <;> with_reducible rfl
                    · conv => whnf
                      apply ex_and
                      · apply good_at ak42 rfl rfl rfl
                        conv => whnf
                        refine And.intro (by decide) ?_
                        refine And.intro (by decide) ?_
                        refine And.intro (by (exact flat_dec rfl)) ?_
                        conv => whnf
                        refine loop_run 300 ?_
                        conv => whnf
                        refine ⟨[], ?_⟩
                        refine And.intro (by decide) ?_
                        conv => whnf
                        refine br_l rfl rfl ?_
                        conv => whnf
                        refine And.intro (by decide) ?_
                        refine And.intro (by decide) ?_
                        refine And.intro (by decide) ?_
                        conv => whnf
                        with_reducible refine ⟨_, rfl, ?_⟩
                        conv => whnf
                        refine br_r rfl rfl ?_
                        conv => whnf
                        refine And.intro (by decide) ?_
                        conv => whnf
                        refine And.intro (by decide) ?_
                        refine And.intro (by decide) ?_
                        refine And.intro (by decide) ?_
                        conv => whnf
                        with_reducible refine ⟨_, rfl, ?_⟩
                        conv => whnf
                        refine br_r rfl rfl ?_
                        conv => whnf
                        refine And.intro (by decide) ?_
                        refine And.intro (by decide) ?_
                        refine And.intro (by decide) ?_
                        conv => whnf
                        with_reducible refine ⟨_, rfl, ?_⟩
                        conv => whnf
                        refine And.intro (by decide) ?_
                        refine And.intro (by decide) ?_
                        refine And.intro (by decide) ?_
                        conv => whnf
                        with_reducible refine ⟨_, rfl, ?_⟩
                        conv => whnf
                        refine And.intro (by decide) ?_
                        refine And.intro (by decide) ?_
                        refine And.intro (by decide) ?_
                        conv => whnf
                        with_reducible refine ⟨_, rfl, ?_⟩
                        conv => whnf
                        refine And.intro (by decide) ?_
                        refine And.intro (by decide) ?_
                        refine And.intro (by decide) ?_
                        conv => whnf
                        with_reducible refine ⟨_, rfl, ?_⟩
                        conv => whnf
                        refine And.intro (by decide) ?_
                        refine And.intro (by decide) ?_
                        refine And.intro (by decide) ?_
                        conv => whnf
                        refine ⟨[], ?_⟩
                        refine And.intro (by decide) ?_
                        conv => whnf
                        refine br_l rfl rfl ?_
                        conv => whnf
                        refine And.intro (by decide) ?_
                        refine And.intro (by decide) ?_
                        refine And.intro (by decide) ?_
                        conv => whnf
                        with_reducible refine ⟨_, rfl, ?_⟩
                        conv => whnf
                        refine br_r rfl rfl ?_
                        conv => whnf
                        refine And.intro (by decide) ?_
                        conv => whnf
                        refine And.intro (by decide) ?_
                        refine And.intro (by decide) ?_
                        refine And.intro (by decide) ?_
                        conv => whnf
                        with_reducible refine ⟨_, rfl, ?_⟩
                        conv => whnf
                        refine br_r rfl rfl ?_
                        conv => whnf
                        refine And.intro (by decide) ?_
                        refine And.intro (by decide) ?_
                        refine And.intro (by decide) ?_
                        conv => whnf
                        with_reducible refine ⟨_, rfl, ?_⟩
                        conv => whnf
                        refine And.intro (by decide) ?_
                        refine And.intro (by decide) ?_
                        refine And.intro (by decide) ?_
                        conv => whnf
                        with_reducible refine ⟨_, rfl, ?_⟩
                        conv => whnf
                        refine And.intro (by decide) ?_
                        refine And.intro (by decide) ?_
                        refine And.intro (by decide) ?_
                        conv => whnf
                        with_reducible refine ⟨_, rfl, ?_⟩
                        conv => whnf
                        refine And.intro (by decide) ?_
                        refine And.intro (by decide) ?_
                        refine And.intro (by decide) ?_
                        conv => whnf
                        with_reducible refine ⟨_, rfl, ?_⟩
                        conv => whnf
                        refine And.intro (by decide) ?_
                        refine And.intro (by decide) ?_
                        refine And.intro (by decide) ?_
                        conv => whnf
                        refine ⟨[], ?_⟩
                        refine And.intro (by decide) ?_
                        conv => whnf
                        refine br_r rfl rfl ?_
                        conv => whnf
                        refine And.intro (by with_reducible rfl) ?_
                        refine And.intro (by with_reducible rfl) ?_
                        refine And.intro (by decide) ?_
                        refine And.intro (by (exact flat_dec rfl)) ?_
                        (conv => whnf) <;> with_reducible rfl
                      · conv => whnf
                        apply ex_and
                        · apply good_at ak40 rfl rfl rfl
                          (conv => whnf) <;> with_reducible rfl
                        · conv => whnf
                          apply ex_and
                          · apply good_at ak41 rfl rfl rfl
                            conv => whnf
                            apply ex_and
                            · apply good_at ak99 rfl rfl rfl
                              conv => whnf
                              refine br_r rfl rfl ?_
                              conv => whnf
                              refine br_r rfl rfl ?_
                              conv => whnf
                              refine br_r rfl rfl ?_
                              (conv => whnf) <;> with_reducible rfl
                            · conv => whnf
                              refine br_r rfl rfl ?_
                              conv => whnf
                              refine br_r rfl rfl ?_
                              conv => whnf
                              refine br_r rfl rfl ?_
                              conv => whnf
                              refine br_l rfl rfl ?_
                              conv => whnf
                              refine br_l rfl rfl ?_
                              (conv => whnf) <;> with_reducible rfl
                          · conv => whnf
                            refine br_l rfl rfl ?_
                            conv => whnf
                            refine br_l rfl rfl ?_
                            conv => whnf
                            refine br_l rfl rfl ?_
                            conv => whnf
                            refine br_r rfl rfl ?_
                            conv => whnf
                            refine br_l rfl rfl ?_
                            conv => whnf
                            refine br_l rfl rfl ?_
                            conv => whnf
                            refine br_l rfl rfl ?_
                            conv => whnf
                            refine br_r rfl rfl ?_
                            conv => whnf
                            refine br_r rfl rfl ?_
                            conv => whnf
                            refine br_l rfl rfl ?_
                            conv => whnf
                            refine br_l rfl rfl ?_
                            conv => whnf
                            refine br_l rfl rfl ?_
                            conv => whnf
                            refine br_l rfl rfl ?_
                            conv => whnf
                            refine br_l rfl rfl ?_
                            conv => whnf
                            refine br_l rfl rfl ?_
                            conv => whnf
                            refine br_l rfl rfl ?_
                            conv => whnf
                            refine br_l rfl rfl ?_
                            conv => whnf
                            refine And.intro (by decide) ?_
                            with_reducible refine ⟨_, rfl, ?_⟩
                            conv => whnf
                            refine br_l rfl rfl ?_
                            conv => whnf
                            refine br_l rfl rfl ?_
                            conv => whnf
                            refine br_l rfl rfl ?_
                            conv => whnf
                            refine br_l rfl rfl ?_
                            conv => whnf
                            refine br_l rfl rfl ?_
                            conv => whnf
                            refine br_l rfl rfl ?_
                            conv => whnf
                            refine br_l rfl rfl ?_
                            conv => whnf
                            refine br_l rfl rfl ?_
                            conv => whnf
                            refine br_l rfl rfl ?_
                            conv => whnf
                            refine br_l rfl rfl ?_
                            conv => whnf
                            refine br_l rfl rfl ?_
                            conv => whnf
                            refine br_l rfl rfl ?_
                            conv => whnf
                            refine br_l rfl rfl ?_
                            conv => whnf
                            refine And.intro (by decide) ?_
                            with_reducible refine ⟨_, rfl, ?_⟩
                            conv => whnf
                            refine br_l rfl rfl ?_
                            conv => whnf
                            refine br_l rfl rfl ?_
                            conv => whnf
                            refine br_l rfl rfl ?_
                            conv => whnf
                            refine br_l rfl rfl ?_
                            conv => whnf
                            refine br_l rfl rfl ?_
                            conv => whnf
                            refine And.intro (by decide) ?_
                            with_reducible refine ⟨_, rfl, ?_⟩
                            conv => whnf
                            refine br_l rfl rfl ?_
                            conv => whnf
                            refine br_l rfl rfl ?_
                            conv => whnf
                            refine br_l rfl rfl ?_
                            conv => whnf
                            refine br_l rfl rfl ?_
                            conv => whnf
                            refine br_l rfl rfl ?_
                            conv => whnf
                            refine br_l rfl rfl ?_
                            conv => whnf
                            refine br_l rfl rfl ?_
                            conv => whnf
                            refine br_l rfl rfl ?_
                            conv => whnf
                            apply ex_and
                            · apply good_at ak40 rfl rfl rfl
                              (conv => whnf) <;> with_reducible rfl
                            · conv => whnf
                              refine br_l rfl rfl ?_
                              conv => whnf
                              apply ex_and
                              · apply good_at ak100 rfl rfl rfl
                                conv => whnf
                                apply ex_and
                                · apply good_at ak128 rfl rfl rfl
                                  conv => whnf
                                  refine br_l rfl rfl ?_
                                  conv => whnf
                                  refine br_l rfl rfl ?_
                                  conv => whnf
                                  refine br_l rfl rfl ?_
                                  conv => whnf
                                  refine br_l rfl rfl ?_
                                  (conv => whnf) <;> with_reducible rfl
                                · conv => whnf
                                  refine br_l rfl rfl ?_
                                  conv => whnf
                                  refine br_l rfl rfl ?_
                                  conv => whnf
                                  refine br_l rfl rfl ?_
                                  conv => whnf
                                  refine br_l rfl rfl ?_
                                  conv => whnf
                                  refine br_l rfl rfl ?_
                                  conv => whnf
                                  refine br_l rfl rfl ?_
                                  conv => whnf
                                  refine br_l rfl rfl ?_
                                  conv => whnf
                                  refine br_l rfl rfl ?_
                                  conv => whnf
                                  refine br_l rfl rfl ?_
                                  conv => whnf
                                  refine br_l rfl rfl ?_
                                  conv => whnf
                                  refine br_l rfl rfl ?_
                                  conv => whnf
                                  refine br_l rfl rfl ?_
                                  conv => whnf
                                  refine br_l rfl rfl ?_
                                  conv => whnf
                                  apply ex_and
                                  · apply good_at ak128 rfl rfl rfl
                                    conv => whnf
                                    refine br_l rfl rfl ?_
                                    conv => whnf
                                    refine br_l rfl rfl ?_
                                    conv => whnf
                                    refine br_l rfl rfl ?_
                                    conv => whnf
                                    refine br_l rfl rfl ?_
                                    (conv => whnf) <;> with_reducible rfl
                                  · conv => whnf
                                    refine br_l rfl rfl ?_
                                    conv => whnf
                                    refine br_l rfl rfl ?_
                                    conv => whnf
                                    refine br_l rfl rfl ?_
                                    conv => whnf
                                    refine br_l rfl rfl ?_
                                    conv => whnf
                                    apply ex_and
                                    · apply good_at ak128 rfl rfl rfl
                                      conv => whnf
                                      refine br_l rfl rfl ?_
                                      conv => whnf
                                      refine br_l rfl rfl ?_
                                      conv => whnf
                                      refine br_l rfl rfl ?_
                                      conv => whnf
                                      refine br_l rfl rfl ?_
                                      (conv => whnf) <;> with_reducible rfl
                                    · conv => whnf
                                      refine br_l rfl rfl ?_
                                      (conv => whnf) <;> with_reducible rfl
                              · conv => whnf
                                refine br_l rfl rfl ?_
                                conv => whnf
                                refine br_l rfl rfl ?_
                                conv => whnf
                                refine br_l rfl rfl ?_
                                conv => whnf
                                apply ex_and
                                · apply good_at ak100 rfl rfl rfl
                                  conv => whnf
                                  apply ex_and
                                  · apply good_at ak128 rfl rfl rfl
                                    conv => whnf
                                    refine br_r rfl rfl ?_
                                    conv => whnf
                                    refine br_r rfl rfl ?_
                                    conv => whnf
                                    refine br_r rfl rfl ?_
                                    conv => whnf
                                    refine br_r rfl rfl ?_
                                    (conv => whnf) <;> with_reducible rfl
                                  · conv => whnf
                                    refine br_r rfl rfl ?_
                                    conv => whnf
                                    refine br_r rfl rfl ?_
                                    conv => whnf
                                    refine br_r rfl rfl ?_
                                    conv => whnf
                                    refine br_r rfl rfl ?_
                                    conv => whnf
                                    refine br_r rfl rfl ?_
                                    conv => whnf
                                    refine br_r rfl rfl ?_
                                    conv => whnf
                                    refine br_r rfl rfl ?_
                                    conv => whnf
                                    refine br_r rfl rfl ?_
                                    conv => whnf
                                    refine br_r rfl rfl ?_
                                    conv => whnf
                                    refine br_r rfl rfl ?_
                                    conv => whnf
                                    refine br_r rfl rfl ?_
                                    conv => whnf
                                    refine br_r rfl rfl ?_
                                    conv => whnf
                                    refine br_r rfl rfl ?_
                                    conv => whnf
                                    refine br_r rfl rfl ?_
                                    conv => whnf
                                    refine br_r rfl rfl ?_
                                    conv => whnf
                                    refine br_r rfl rfl ?_
                                    conv => whnf
                                    refine br_r rfl rfl ?_
                                    conv => whnf
                                    refine br_r rfl rfl ?_
                                    (conv => whnf) <;> with_reducible rfl
                                · conv => whnf
                                  refine br_l rfl rfl ?_
                                  conv => whnf
                                  refine br_l rfl rfl ?_
                                  conv => whnf
                                  refine br_l rfl rfl ?_
                                  conv => whnf
                                  refine br_l rfl rfl ?_
                                  conv => whnf
                                  refine br_l rfl rfl ?_
                                  conv => whnf
                                  apply ex_and
                                  · apply good_at ak101 rfl rfl rfl
                                    conv => whnf
                                    apply ex_and
                                    · apply good_at ak129 rfl rfl rfl
                                      conv => whnf
                                      refine br_r rfl rfl ?_
                                      conv => whnf
                                      refine loop_run 300 ?_
                                      conv => whnf
                                      refine ⟨[], ?_⟩
                                      refine And.intro (by decide) ?_
                                      conv => whnf
                                      refine br_l rfl rfl ?_
                                      conv => whnf
                                      refine And.intro (by decide) ?_
                                      conv => whnf
                                      refine And.intro (by decide) ?_
                                      with_reducible refine ⟨_, rfl, ?_⟩
                                      conv => whnf
                                      refine And.intro (by decide) ?_
                                      with_reducible refine ⟨_, rfl, ?_⟩
                                      conv => whnf
                                      refine br_r rfl rfl ?_
                                      conv => whnf
                                      refine ⟨[], ?_⟩
                                      refine And.intro (by decide) ?_
                                      conv => whnf
                                      refine br_l rfl rfl ?_
                                      conv => whnf
                                      refine And.intro (by decide) ?_
                                      conv => whnf
                                      refine And.intro (by decide) ?_
                                      with_reducible refine ⟨_, rfl, ?_⟩
                                      conv => whnf
                                      refine And.intro (by decide) ?_
                                      with_reducible refine ⟨_, rfl, ?_⟩
                                      conv => whnf
                                      refine br_r rfl rfl ?_
                                      conv => whnf
                                      refine ⟨[], ?_⟩
                                      refine And.intro (by decide) ?_
                                      conv => whnf
                                      refine br_r rfl rfl ?_
                                      (conv => whnf) <;> with_reducible rfl
                                    · (conv => whnf) <;> with_reducible rfl
                                  · conv => whnf
                                    refine br_l rfl rfl ?_
                                    conv => whnf
                                    refine br_l rfl rfl ?_
                                    conv => whnf
                                    refine br_l rfl rfl ?_
                                    conv => whnf
                                    refine br_l rfl rfl ?_
                                    conv => whnf
                                    apply ex_and
                                    · apply good_at ak101 rfl rfl rfl
                                      conv => whnf
                                      apply ex_and
                                      · apply good_at ak129 rfl rfl rfl
                                        conv => whnf
                                        refine br_l rfl rfl ?_
                                        (conv => whnf) <;> with_reducible rfl
                                      · (conv => whnf) <;> with_reducible rfl
                                    · conv => whnf
                                      refine br_l rfl rfl ?_
                                      conv => whnf
                                      refine br_l rfl rfl ?_
                                      conv => whnf
                                      refine AV.of_eqv ?_
                                      conv => whnf
                                      refine And.intro (by decide) ?_
                                      exact True.intro
theorem acked_one (q : Int) (b : List UInt8) (t f : Int) (hq : 0 ≤ q ∧ q ≤ 65535) : Good Try.prog 43 [.sl .sh 4 [rowS q b t f], .agg [.int .i64 0, .int .u32 0, .int .u32 0, .int .u32 0, .int .u32 0, .int .i64 (IntKind.i64.wrap (q + 1)), .int .i64 0]] (.tuple [.sl .sh 4 [], .int .i64 1]) := by
  apply good_sh ak43 rfl rfl rfl
  conv => whnf
  refine loop_run 300 ?_
  conv => whnf
  refine ⟨[], ?_⟩
  refine And.intro (by exact rfl) ?_
  conv => whnf
  refine br_l rfl rfl ?_
  conv => whnf
  refine And.intro (by decide) ?_
  with_reducible refine ⟨_, rfl, ?_⟩
  conv => whnf
  apply ex_and
  · apply good_at ak82 rfl rfl rfl
    conv => whnf
    refine And.intro (fun hc1 => ?_) (fun hc1 => ?_)
    · replace hc1 := of_decide_eq_true hc1
      (conv => whnf) <;> with_reducible rfl
    · replace hc1 := of_decide_eq_false hc1
      (exfalso; simp only [wrap_i64] at *; omega)
  · conv => whnf
    refine br_r rfl rfl ?_
    conv => whnf
    refine ⟨[], ?_⟩
    refine And.intro (by exact rfl) ?_
    conv => whnf
    refine br_r rfl rfl ?_
    conv => whnf
    refine AV.of_eqv ?_
    conv => whnf
    refine And.intro (by with_reducible rfl) ?_
    conv => whnf
    refine And.intro (by exact rfl) ?_
    exact True.intro
def c6 (l : Int) : Int := IntKind.i64.wrap (1 + IntKind.i64.wrap ((IntKind.u64.wrap l).tmod 6))
theorem c6_b (n : Int) : 1 ≤ c6 n ∧ c6 n ≤ 6 := by
  have h0 : 0 ≤ IntKind.u64.wrap n := by rw [wrap_u64]; omega
  unfold c6
  rw [Int.tmod_eq_emod_of_nonneg h0]
  have h1 := Int.emod_nonneg (IntKind.u64.wrap n) (show (6 : Int) ≠ 0 by omega)
  have h2 := Int.emod_lt_of_pos (IntKind.u64.wrap n) (show (0 : Int) < 6 by omega)
  rw [wrap_i64, wrap_i64]
  omega
def cq (l : Int) : Int := IntKind.i64.wrap ((IntKind.u64.wrap l).tmod 65536)
theorem cq_b (n : Int) : 0 ≤ cq n ∧ cq n ≤ 65535 := by
  have h0 : 0 ≤ IntKind.u64.wrap n := by rw [wrap_u64]; omega
  unfold cq
  rw [Int.tmod_eq_emod_of_nonneg h0]
  have h1 := Int.emod_nonneg (IntKind.u64.wrap n) (show (65536 : Int) ≠ 0 by omega)
  have h2 := Int.emod_lt_of_pos (IntKind.u64.wrap n) (show (0 : Int) < 65536 by omega)
  rw [wrap_i64]
  omega
/-- behind k ticks: t times sent, f ticks are left, s: how often in all -/
def rinv (R T k t f s : Int) : Prop := 0 ≤ k ∧ k ≤ R * T ∧ (k < R * T → k + f = t * R ∧ 1 ≤ f ∧ f ≤ R ∧ 1 ≤ t ∧ t ≤ T) ∧ (k = R * T → t = T) ∧ s = t
theorem rinv_0 {R T : Int} (hR : 1 ≤ R) (hT : 1 ≤ T) : rinv R T 0 1 R 1 := by
  have := Int.mul_le_mul hR hT (by omega) (by omega)
  refine ⟨by omega, by omega, fun h => ⟨by omega, by omega, by omega, by omega, by omega⟩, fun h => by omega, rfl⟩
theorem rinv_cases {R T k t f s : Int} (hR : 1 ≤ R ∧ R ≤ 6) (hT : 1 ≤ T ∧ T ≤ 6) (h : rinv R T k t f s) (hk : k < R * T) :
    (1 < f ∧ rinv R T (k + 1) t (f - 1) s ∧ ¬ k + 1 = R * T) ∨ (¬ 1 < f ∧ T ≤ t ∧ rinv R T (k + 1) t f s ∧ k + 1 = R * T) ∨ (¬ 1 < f ∧ ¬ T ≤ t ∧ rinv R T (k + 1) (t + 1) R (s + 1) ∧ ¬ k + 1 = R * T ∧ (k + 1).tmod R = 0) := by
  obtain ⟨h0, h1, h2, h3, h4⟩ := h
  obtain ⟨h5, h6, h7, h8, h9⟩ := h2 hk
  unfold rinv
  have hT6 : T = 1 ∨ T = 2 ∨ T = 3 ∨ T = 4 ∨ T = 5 ∨ T = 6 := by omega
  have hR6 : R = 1 ∨ R = 2 ∨ R = 3 ∨ R = 4 ∨ R = 5 ∨ R = 6 := by omega
  rw [Int.tmod_eq_emod_of_nonneg (by omega)]
  rcases hT6 with rfl | rfl | rfl | rfl | rfl | rfl <;> rcases hR6 with rfl | rfl | rfl | rfl | rfl | rfl <;> omega
theorem rinv_end {R T k t f s : Int} (h : rinv R T k t f s) (hk : ¬ k < R * T) : s = T := by
  obtain ⟨h0, h1, h2, h3, h4⟩ := h
  have := h3 (by omega)
  omega
theorem rinv_b {R T k t f s : Int} (hR : 1 ≤ R ∧ R ≤ 6) (hT : 1 ≤ T ∧ T ≤ 6) (h : rinv R T k t f s) : 0 ≤ k ∧ k ≤ 36 ∧ (k < R * T → 0 ≤ t ∧ t ≤ 6 ∧ f ≤ 6) ∧ 1 ≤ R * T ∧ R * T ≤ 36 := by
  obtain ⟨h0, h1, h2, h3, h4⟩ := h
  have h5 : R * T ≤ 6 * 6 := Int.mul_le_mul hR.2 hT.2 (by omega) (by omega)
  have h6 : 1 * 1 ≤ R * T := Int.mul_le_mul hR.1 hT.1 (by omega) (by omega)
  exact ⟨by omega, by omega, fun hk => by have := h2 hk; omega, by omega, by omega⟩
theorem resendEnds_good (a b c : Int) : Good Try.prog 7 [.agg [.int .i64 a, .int .i64 b, .int .i64 c]] (.bool true) := by
  have hR := c6_b a
  have hT := c6_b b
  have hq := cq_b c
  have hm : 1 ≤ c6 a * c6 b ∧ c6 a * c6 b ≤ 36 := ⟨Int.mul_le_mul hR.1 hT.1 (by omega) (by omega), Int.mul_le_mul hR.2 hT.2 (by omega) (by omega)⟩
  have hw : IntKind.i64.wrap (c6 a * c6 b) = c6 a * c6 b := by rw [wrap_i64]; omega
  have eR : IntKind.i64.wrap (1 + IntKind.i64.wrap ((IntKind.u64.wrap a).tmod 6)) = c6 a := rfl
  have eT : IntKind.i64.wrap (1 + IntKind.i64.wrap ((IntKind.u64.wrap b).tmod 6)) = c6 b := rfl
  apply good_at ak7 rfl rfl rfl
  conv => whnf
  refine ⟨_, rules_good, ?_⟩
  conv => whnf
  refine And.intro (by exact rfl) ?_
  conv => whnf
  refine And.intro (by decide) ?_
  refine And.intro (by decide) ?_
  conv => whnf
  refine And.intro (by decide) ?_
  conv => whnf
  refine And.intro (by decide) ?_
  refine And.intro (by decide) ?_
  conv => whnf
  refine And.intro (by decide) ?_
  conv => whnf
  refine And.intro (by decide) ?_
  refine And.intro (by decide) ?_
  conv => whnf
  refine And.intro (by decide) ?_
  conv => whnf
  refine ⟨_, (add_one (cq c) [120] 2 8 (c6 a) (c6 b)) ?_ ?_, ?_⟩
  · assumption
  · omega
  · conv => whnf
    refine br_r rfl rfl ?_
    conv => whnf
    refine loop_at (α := Int × Int × Int × Int) [] (fun ⟨k, t, f, s⟩ => [(7, .int .i64 (k + 1)), (6, .int .i64 s), (4, .sl .sh 4 [rowS (cq c) [120] t f])]) (fun ⟨k, t, f, s⟩ => [(1, some ⟨true, 4, [[.int .i64 2, .int .i64 8, .int .i64 (c6 a), .int .i64 (c6 b)]]⟩)]) (fun ⟨k, t, f, s⟩ => rinv (c6 a) (c6 b) k t f s) (fun ⟨k, t, f, s⟩ => (c6 a * c6 b - k).toNat) ((0, 1, c6 a, 1)) (st_of ?_) ?_ (by rintro ⟨k, t, f, s⟩ _; rfl) ?_
    · conv => whnf
      refine And.intro (by with_reducible rfl) ?_
      conv => whnf
      refine And.intro (by with_reducible rfl) ?_
      conv => whnf
      refine And.intro (by with_reducible rfl) ?_
      conv => whnf
      refine And.intro (by with_reducible rfl) ?_
      refine And.intro (by with_reducible rfl) ?_
      conv => whnf
      refine And.intro (by with_reducible rfl) ?_
      refine And.intro (by with_reducible rfl) ?_
      conv => whnf
      refine And.intro (by with_reducible rfl) ?_
      conv => whnf
      refine And.intro (by with_reducible rfl) ?_
      conv => whnf
      refine And.intro (by with_reducible rfl) ?_
      conv => whnf
      refine And.intro (by decide) ?_
      conv => whnf
      refine And.intro (by with_reducible rfl) ?_
      conv => whnf
      refine And.intro (by with_reducible rfl) ?_
      conv => whnf
      refine And.intro (by with_reducible rfl) ?_
      conv => whnf
      refine And.intro (by with_reducible rfl) ?_
      conv => whnf
      refine And.intro (by with_reducible rfl) ?_
      refine And.intro (by with_reducible rfl) ?_
      conv => whnf
      refine And.intro (by with_reducible rfl) ?_
      conv => whnf
      refine And.intro (by with_reducible rfl) ?_
      conv => whnf
      refine And.intro (by with_reducible rfl) ?_
      conv => whnf
      refine And.intro (by with_reducible rfl) ?_
      conv => whnf
      refine And.intro (by with_reducible rfl) ?_
      conv => whnf
      refine And.intro (by with_reducible rfl) ?_
      refine And.intro (by with_reducible rfl) ?_
      conv => whnf
      refine And.intro (by with_reducible rfl) ?_
      conv => whnf
      refine And.intro (by with_reducible rfl) ?_
      conv => whnf
      refine And.intro (by with_reducible rfl) ?_
      conv => whnf
      refine And.intro (by with_reducible rfl) ?_
      conv => whnf
      refine And.intro (by with_reducible rfl) ?_
      conv => whnf
      refine And.intro (by with_reducible rfl) ?_
      refine And.intro (by with_reducible rfl) ?_
      conv => whnf
      refine And.intro (by with_reducible rfl) ?_
      refine And.intro (by with_reducible rfl) ?_
      conv => whnf
      refine And.intro (by with_reducible rfl) ?_
      conv => whnf
      refine And.intro (by with_reducible rfl) ?_
      conv => whnf
      refine And.intro (by with_reducible rfl) ?_
      refine And.intro (by with_reducible rfl) ?_
      conv => whnf
      refine And.intro (by with_reducible rfl) ?_
      conv => whnf
      refine And.intro (by with_reducible rfl) ?_
      conv => whnf
      refine And.intro (by with_reducible rfl) ?_
      conv => whnf
      refine And.intro (by with_reducible rfl) ?_
      conv => whnf
      refine And.intro (by with_reducible rfl) ?_
      conv => whnf
      refine And.intro (by with_reducible rfl) ?_
      conv => whnf
      refine And.intro (by with_reducible rfl) ?_
      conv => whnf
      refine And.intro (by with_reducible rfl) ?_
      conv => whnf
      refine And.intro (by with_reducible rfl) ?_
      conv => whnf
      refine And.intro (by with_reducible rfl) ?_
      conv => whnf
      refine And.intro (by with_reducible rfl) ?_
      conv => whnf
      refine And.intro (by with_reducible rfl) ?_
      conv => whnf
      refine And.intro (by with_reducible rfl) ?_
      conv => whnf
      refine And.intro (by with_reducible rfl) ?_
      conv => whnf
      refine And.intro (by with_reducible rfl) ?_
      conv => whnf
      refine And.intro (by with_reducible rfl) ?_
      conv => whnf
      refine And.intro (by with_reducible rfl) ?_
      conv => whnf
      refine And.intro (by with_reducible rfl) ?_
      conv => whnf
      refine And.intro (by with_reducible rfl) ?_
      conv => whnf
      refine And.intro (by assumption) ?_
      conv => whnf
      refine And.intro (by assumption) ?_
      exact True.intro
    · dsimp only
      (exact rinv_0 hR.1 hT.1)
    · rintro ⟨k, t, f, s⟩ nextl0 hIl0 ihl0
      try dsimp only at hIl0
      rcases (show (¬ k < c6 a * c6 b) ∨ _ from (Int.lt_or_le k (c6 a * c6 b)).elim (fun h => Or.inr (And.intro h (rinv_cases hR hT hIl0 h))) (fun h => Or.inl (by omega))) with hz | ⟨hz, ⟨h1, h2, h3⟩ | ⟨h1, h2, h3, h4⟩ | ⟨h1, h2, h3, h4, h5⟩⟩
      · conv => whnf
        refine And.intro (fun hc0 => ?_) (fun hc0 => ?_)
        · replace hc0 := of_decide_eq_true hc0
          (exfalso; omega)
        · replace hc0 := of_decide_eq_false hc0
          conv => whnf
          refine And.intro (by decide) ?_
          with_reducible refine ⟨_, rfl, ?_⟩
          conv => whnf
          refine ⟨_, (acked_one (cq c) [120] t f) ?_, ?_⟩
          · assumption
          · conv => whnf
            refine ⟨_, tick_none _ _ _ _, ?_⟩
            conv => whnf
            refine And.intro (fun hc2 => ?_) (fun hc2 => ?_)
            · replace hc2 := of_decide_eq_true hc2
              conv => whnf
              refine br_l rfl rfl ?_
              conv => whnf
              refine br_l rfl rfl ?_
              conv => whnf
              refine br_l rfl rfl ?_
              conv => whnf
              refine br_l rfl rfl ?_
              conv => whnf
              refine br_l rfl rfl ?_
              conv => whnf
              refine br_l rfl rfl ?_
              conv => whnf
              refine br_l rfl rfl ?_
              conv => whnf
              refine br_l rfl rfl ?_
              conv => whnf
              refine br_l rfl rfl ?_
              conv => whnf
              refine br_l rfl rfl ?_
              conv => whnf
              refine br_l rfl rfl ?_
              conv => whnf
              refine br_l rfl rfl ?_
              conv => whnf
              refine br_l rfl rfl ?_
              conv => whnf
              refine br_l rfl rfl ?_
              conv => whnf
              refine ⟨_, awake17_good, ?_⟩
              conv => whnf
              refine br_l rfl rfl ?_
              conv => whnf
              refine AV.of_eqv ?_
              conv => whnf
              refine And.intro (by with_reducible rfl) ?_
              exact True.intro
            · replace hc2 := of_decide_eq_false hc2
              (exact absurd (rinv_end hIl0 hz) (by assumption))
      · conv => whnf
        refine And.intro (fun hc3 => ?_) (fun hc3 => ?_)
        · replace hc3 := of_decide_eq_true hc3
          conv => whnf
          refine ⟨_, (tick_left (cq c) [120] t f 2 8 (c6 a) (c6 b)) ?_ ?_, ?_⟩
          · assumption
          · (have hb := rinv_b hR hT hIl0; omega)
          · conv => whnf
            refine And.intro (fun hc4 => ?_) (fun hc4 => ?_)
            · replace hc4 := of_decide_eq_true (Bool.not_eq_false' _ |>.mp hc4)
              conv => whnf
              refine br_l rfl rfl ?_
              conv => whnf
              refine br_l rfl rfl ?_
              conv => whnf
              refine br_l rfl rfl ?_
              conv => whnf
              refine br_r rfl rfl ?_
              conv => whnf
              refine br_r rfl rfl ?_
              conv => whnf
              refine br_r rfl rfl ?_
              conv => whnf
              refine br_r rfl rfl ?_
              conv => whnf
              refine br_r rfl rfl ?_
              conv => whnf
              refine br_l rfl rfl ?_
              conv => whnf
              refine br_r rfl rfl ?_
              conv => whnf
              refine br_r rfl rfl ?_
              conv => whnf
              refine br_l rfl rfl ?_
              conv => whnf
              refine br_l rfl rfl ?_
              conv => whnf
              refine br_l rfl rfl ?_
              conv => whnf
              refine br_r rfl rfl ?_
              conv => whnf
              refine br_r rfl rfl ?_
              conv => whnf
              refine ihl0 ((k + 1, t, f - 1, s)) _ ?_ ?_ (st_of ?_)
              · dsimp only
                assumption
              · dsimp only
                omega
              · conv => whnf
                refine And.intro (by with_reducible rfl) ?_
                conv => whnf
                refine And.intro (by with_reducible rfl) ?_
                conv => whnf
                refine And.intro (by with_reducible rfl) ?_
                conv => whnf
                refine And.intro (by with_reducible rfl) ?_
                refine And.intro (by with_reducible rfl) ?_
                conv => whnf
                refine And.intro (by with_reducible rfl) ?_
                refine And.intro (by with_reducible rfl) ?_
                conv => whnf
                refine And.intro (by with_reducible rfl) ?_
                conv => whnf
                refine And.intro (by with_reducible rfl) ?_
                conv => whnf
                refine And.intro (by (have hb := rinv_b hR hT hIl0; have hs := hIl0.2.2.2.2; simp only [wrap_i64, List.length_nil, List.length_cons]; omega)) ?_
                conv => whnf
                refine And.intro (by (have hb := rinv_b hR hT hIl0; have hs := hIl0.2.2.2.2; simp only [wrap_i64, List.length_nil, List.length_cons]; omega)) ?_
                conv => whnf
                refine And.intro (by with_reducible rfl) ?_
                conv => whnf
                refine And.intro (by with_reducible rfl) ?_
                conv => whnf
                refine And.intro (by with_reducible rfl) ?_
                conv => whnf
                refine And.intro (by with_reducible rfl) ?_
                conv => whnf
                refine And.intro (by with_reducible rfl) ?_
                refine And.intro (by with_reducible rfl) ?_
                conv => whnf
                refine And.intro (by with_reducible rfl) ?_
                conv => whnf
                refine And.intro (by with_reducible rfl) ?_
                conv => whnf
                refine And.intro (by with_reducible rfl) ?_
                conv => whnf
                refine And.intro (by with_reducible rfl) ?_
                conv => whnf
                refine And.intro (by with_reducible rfl) ?_
                conv => whnf
                refine And.intro (by with_reducible rfl) ?_
                refine And.intro (by with_reducible rfl) ?_
                conv => whnf
                refine And.intro (by with_reducible rfl) ?_
                conv => whnf
                refine And.intro (by with_reducible rfl) ?_
                conv => whnf
                refine And.intro (by with_reducible rfl) ?_
                conv => whnf
                refine And.intro (by with_reducible rfl) ?_
                conv => whnf
                refine And.intro (by with_reducible rfl) ?_
                conv => whnf
                refine And.intro (by with_reducible rfl) ?_
                refine And.intro (by with_reducible rfl) ?_
                conv => whnf
                refine And.intro (by with_reducible rfl) ?_
                refine And.intro (by with_reducible rfl) ?_
                conv => whnf
                refine And.intro (by with_reducible rfl) ?_
                conv => whnf
                refine And.intro (by with_reducible rfl) ?_
                conv => whnf
                refine And.intro (by with_reducible rfl) ?_
                refine And.intro (by with_reducible rfl) ?_
                conv => whnf
                refine And.intro (by with_reducible rfl) ?_
                conv => whnf
                refine And.intro (by with_reducible rfl) ?_
                conv => whnf
                refine And.intro (by with_reducible rfl) ?_
                conv => whnf
                refine And.intro (by with_reducible rfl) ?_
                conv => whnf
                refine And.intro (by with_reducible rfl) ?_
                conv => whnf
                refine And.intro (by with_reducible rfl) ?_
                conv => whnf
                refine And.intro (by with_reducible rfl) ?_
                conv => whnf
                refine And.intro (by with_reducible rfl) ?_
                conv => whnf
                refine And.intro (by with_reducible rfl) ?_
                conv => whnf
                refine And.intro (by with_reducible rfl) ?_
                conv => whnf
                refine And.intro (by with_reducible rfl) ?_
                conv => whnf
                refine And.intro (by with_reducible rfl) ?_
                conv => whnf
                refine And.intro (by with_reducible rfl) ?_
                conv => whnf
                refine And.intro (by with_reducible rfl) ?_
                conv => whnf
                refine And.intro (by with_reducible rfl) ?_
                conv => whnf
                refine And.intro (by with_reducible rfl) ?_
                conv => whnf
                refine And.intro (by with_reducible rfl) ?_
                conv => whnf
                refine And.intro (by with_reducible rfl) ?_
                conv => whnf
                refine And.intro (by with_reducible rfl) ?_
                conv => whnf
                refine And.intro (by with_reducible rfl) ?_
                conv => whnf
                refine And.intro (by with_reducible rfl) ?_
                exact True.intro
            · replace hc4 := of_decide_eq_false (Bool.not_eq_true' _ |>.mp hc4)
              (exfalso; simp_all; done)
        · replace hc3 := of_decide_eq_false hc3
          (exfalso; omega)
      · conv => whnf
        refine And.intro (fun hc5 => ?_) (fun hc5 => ?_)
        · replace hc5 := of_decide_eq_true hc5
          conv => whnf
          refine ⟨_, (tick_dead (cq c) [120] t f 2 8 (c6 a) (c6 b)) ?_ ?_, ?_⟩
          · assumption
          · assumption
          · conv => whnf
            refine And.intro (fun hc6 => ?_) (fun hc6 => ?_)
            · replace hc6 := of_decide_eq_true (Bool.not_eq_false' _ |>.mp hc6)
              conv => whnf
              refine br_l rfl rfl ?_
              conv => whnf
              refine br_l rfl rfl ?_
              conv => whnf
              refine br_l rfl rfl ?_
              conv => whnf
              refine br_r rfl rfl ?_
              conv => whnf
              refine br_r rfl rfl ?_
              conv => whnf
              refine br_r rfl rfl ?_
              conv => whnf
              refine br_r rfl rfl ?_
              conv => whnf
              refine br_r rfl rfl ?_
              conv => whnf
              refine br_l rfl rfl ?_
              conv => whnf
              refine br_r rfl rfl ?_
              conv => whnf
              refine br_r rfl rfl ?_
              conv => whnf
              refine br_l rfl rfl ?_
              conv => whnf
              refine br_l rfl rfl ?_
              conv => whnf
              refine br_l rfl rfl ?_
              conv => whnf
              refine br_r rfl rfl ?_
              conv => whnf
              refine br_r rfl rfl ?_
              conv => whnf
              refine ihl0 ((k + 1, t, f, s)) _ ?_ ?_ (st_of ?_)
              · dsimp only
                assumption
              · dsimp only
                omega
              · conv => whnf
                refine And.intro (by with_reducible rfl) ?_
                conv => whnf
                refine And.intro (by with_reducible rfl) ?_
                conv => whnf
                refine And.intro (by with_reducible rfl) ?_
                conv => whnf
                refine And.intro (by with_reducible rfl) ?_
                refine And.intro (by with_reducible rfl) ?_
                conv => whnf
                refine And.intro (by with_reducible rfl) ?_
                refine And.intro (by with_reducible rfl) ?_
                conv => whnf
                refine And.intro (by with_reducible rfl) ?_
                conv => whnf
                refine And.intro (by with_reducible rfl) ?_
                conv => whnf
                refine And.intro (by (have hb := rinv_b hR hT hIl0; have hs := hIl0.2.2.2.2; simp only [wrap_i64, List.length_nil, List.length_cons]; omega)) ?_
                conv => whnf
                refine And.intro (by (have hb := rinv_b hR hT hIl0; have hs := hIl0.2.2.2.2; simp only [wrap_i64, List.length_nil, List.length_cons]; omega)) ?_
                conv => whnf
                refine And.intro (by with_reducible rfl) ?_
                conv => whnf
                refine And.intro (by with_reducible rfl) ?_
                conv => whnf
                refine And.intro (by with_reducible rfl) ?_
                conv => whnf
                refine And.intro (by with_reducible rfl) ?_
                conv => whnf
                refine And.intro (by with_reducible rfl) ?_
                refine And.intro (by with_reducible rfl) ?_
                conv => whnf
                refine And.intro (by with_reducible rfl) ?_
                conv => whnf
                refine And.intro (by with_reducible rfl) ?_
                conv => whnf
                refine And.intro (by with_reducible rfl) ?_
                conv => whnf
                refine And.intro (by with_reducible rfl) ?_
                conv => whnf
                refine And.intro (by with_reducible rfl) ?_
                conv => whnf
                refine And.intro (by with_reducible rfl) ?_
                refine And.intro (by with_reducible rfl) ?_
                conv => whnf
                refine And.intro (by with_reducible rfl) ?_
                conv => whnf
                refine And.intro (by with_reducible rfl) ?_
                conv => whnf
                refine And.intro (by with_reducible rfl) ?_
                conv => whnf
                refine And.intro (by with_reducible rfl) ?_
                conv => whnf
                refine And.intro (by with_reducible rfl) ?_
                conv => whnf
                refine And.intro (by with_reducible rfl) ?_
                refine And.intro (by with_reducible rfl) ?_
                conv => whnf
                refine And.intro (by with_reducible rfl) ?_
                refine And.intro (by with_reducible rfl) ?_
                conv => whnf
                refine And.intro (by with_reducible rfl) ?_
                conv => whnf
                refine And.intro (by with_reducible rfl) ?_
                conv => whnf
                refine And.intro (by with_reducible rfl) ?_
                refine And.intro (by with_reducible rfl) ?_
                conv => whnf
                refine And.intro (by with_reducible rfl) ?_
                conv => whnf
                refine And.intro (by with_reducible rfl) ?_
                conv => whnf
                refine And.intro (by with_reducible rfl) ?_
                conv => whnf
                refine And.intro (by with_reducible rfl) ?_
                conv => whnf
                refine And.intro (by with_reducible rfl) ?_
                conv => whnf
                refine And.intro (by with_reducible rfl) ?_
                conv => whnf
                refine And.intro (by with_reducible rfl) ?_
                conv => whnf
                refine And.intro (by with_reducible rfl) ?_
                conv => whnf
                refine And.intro (by with_reducible rfl) ?_
                conv => whnf
                refine And.intro (by with_reducible rfl) ?_
                conv => whnf
                refine And.intro (by with_reducible rfl) ?_
                conv => whnf
                refine And.intro (by with_reducible rfl) ?_
                conv => whnf
                refine And.intro (by with_reducible rfl) ?_
                conv => whnf
                refine And.intro (by with_reducible rfl) ?_
                conv => whnf
                refine And.intro (by with_reducible rfl) ?_
                conv => whnf
                refine And.intro (by with_reducible rfl) ?_
                conv => whnf
                refine And.intro (by with_reducible rfl) ?_
                conv => whnf
                refine And.intro (by with_reducible rfl) ?_
                conv => whnf
                refine And.intro (by with_reducible rfl) ?_
                conv => whnf
                refine And.intro (by with_reducible rfl) ?_
                conv => whnf
                refine And.intro (by with_reducible rfl) ?_
                exact True.intro
            · replace hc6 := of_decide_eq_false (Bool.not_eq_true' _ |>.mp hc6)
              (exfalso; simp_all; done)
        · replace hc5 := of_decide_eq_false hc5
          (exfalso; omega)
      · conv => whnf
        refine And.intro (fun hc7 => ?_) (fun hc7 => ?_)
        · replace hc7 := of_decide_eq_true hc7
          conv => whnf
          refine ⟨_, (tick_again (cq c) [120] t f 2 8 (c6 a) (c6 b)) ?_ ?_ ?_ ?_, ?_⟩
          · assumption
          · assumption
          · (have hb := rinv_b hR hT hIl0; omega)
          · omega
          · conv => whnf
            refine And.intro (fun hc8 => ?_) (fun hc8 => ?_)
            · replace hc8 := of_decide_eq_true (Bool.not_eq_false' _ |>.mp hc8)
              conv => whnf
              refine br_l rfl rfl ?_
              conv => whnf
              refine br_l rfl rfl ?_
              conv => whnf
              refine br_l rfl rfl ?_
              conv => whnf
              refine br_l rfl rfl ?_
              conv => whnf
              refine br_l rfl rfl ?_
              conv => whnf
              refine br_l rfl rfl ?_
              conv => whnf
              refine br_l rfl rfl ?_
              conv => whnf
              refine And.intro (by omega) ?_
              conv => whnf
              refine br_l rfl rfl ?_
              conv => whnf
              refine br_l rfl rfl ?_
              conv => whnf
              refine br_l rfl rfl ?_
              conv => whnf
              refine br_r rfl rfl ?_
              conv => whnf
              refine And.intro (fun hc9 => ?_) (fun hc9 => ?_)
              · replace hc9 := of_decide_eq_true (Bool.not_eq_false' _ |>.mp hc9)
                conv => whnf
                refine br_l rfl rfl ?_
                conv => whnf
                refine br_l rfl rfl ?_
                conv => whnf
                refine br_r rfl rfl ?_
                conv => whnf
                refine br_r rfl rfl ?_
                conv => whnf
                refine ihl0 ((k + 1, t + 1, c6 a, s + 1)) _ ?_ ?_ (st_of ?_)
                · dsimp only
                  assumption
                · dsimp only
                  omega
                · conv => whnf
                  refine And.intro (by with_reducible rfl) ?_
                  conv => whnf
                  refine And.intro (by with_reducible rfl) ?_
                  conv => whnf
                  refine And.intro (by with_reducible rfl) ?_
                  conv => whnf
                  refine And.intro (by with_reducible rfl) ?_
                  refine And.intro (by with_reducible rfl) ?_
                  conv => whnf
                  refine And.intro (by with_reducible rfl) ?_
                  refine And.intro (by with_reducible rfl) ?_
                  conv => whnf
                  refine And.intro (by with_reducible rfl) ?_
                  conv => whnf
                  refine And.intro (by with_reducible rfl) ?_
                  conv => whnf
                  refine And.intro (by (have hb := rinv_b hR hT hIl0; have hs := hIl0.2.2.2.2; simp only [wrap_i64, List.length_nil, List.length_cons]; omega)) ?_
                  conv => whnf
                  refine And.intro (by (have hb := rinv_b hR hT hIl0; have hs := hIl0.2.2.2.2; simp only [wrap_i64, List.length_nil, List.length_cons]; omega)) ?_
                  conv => whnf
                  refine And.intro (by with_reducible rfl) ?_
                  conv => whnf
                  refine And.intro (by with_reducible rfl) ?_
                  conv => whnf
                  refine And.intro (by with_reducible rfl) ?_
                  conv => whnf
                  refine And.intro (by with_reducible rfl) ?_
                  conv => whnf
                  refine And.intro (by with_reducible rfl) ?_
                  refine And.intro (by with_reducible rfl) ?_
                  conv => whnf
                  refine And.intro (by with_reducible rfl) ?_
                  conv => whnf
                  refine And.intro (by with_reducible rfl) ?_
                  conv => whnf
                  refine And.intro (by with_reducible rfl) ?_
                  conv => whnf
                  refine And.intro (by with_reducible rfl) ?_
                  conv => whnf
                  refine And.intro (by with_reducible rfl) ?_
                  conv => whnf
                  refine And.intro (by with_reducible rfl) ?_
                  refine And.intro (by with_reducible rfl) ?_
                  conv => whnf
                  refine And.intro (by with_reducible rfl) ?_
                  conv => whnf
                  refine And.intro (by with_reducible rfl) ?_
                  conv => whnf
                  refine And.intro (by with_reducible rfl) ?_
                  conv => whnf
                  refine And.intro (by with_reducible rfl) ?_
                  conv => whnf
                  refine And.intro (by with_reducible rfl) ?_
                  conv => whnf
                  refine And.intro (by with_reducible rfl) ?_
                  refine And.intro (by with_reducible rfl) ?_
                  conv => whnf
                  refine And.intro (by with_reducible rfl) ?_
                  refine And.intro (by with_reducible rfl) ?_
                  conv => whnf
                  refine And.intro (by with_reducible rfl) ?_
                  conv => whnf
                  refine And.intro (by with_reducible rfl) ?_
                  conv => whnf
                  refine And.intro (by with_reducible rfl) ?_
                  refine And.intro (by with_reducible rfl) ?_
                  conv => whnf
                  refine And.intro (by with_reducible rfl) ?_
                  conv => whnf
                  refine And.intro (by with_reducible rfl) ?_
                  conv => whnf
                  refine And.intro (by with_reducible rfl) ?_
                  conv => whnf
                  refine And.intro (by with_reducible rfl) ?_
                  conv => whnf
                  refine And.intro (by with_reducible rfl) ?_
                  conv => whnf
                  refine And.intro (by with_reducible rfl) ?_
                  conv => whnf
                  refine And.intro (by with_reducible rfl) ?_
                  conv => whnf
                  refine And.intro (by with_reducible rfl) ?_
                  conv => whnf
                  refine And.intro (by with_reducible rfl) ?_
                  conv => whnf
                  refine And.intro (by with_reducible rfl) ?_
                  conv => whnf
                  refine And.intro (by with_reducible rfl) ?_
                  conv => whnf
                  refine And.intro (by with_reducible rfl) ?_
                  conv => whnf
                  refine And.intro (by with_reducible rfl) ?_
                  conv => whnf
                  refine And.intro (by with_reducible rfl) ?_
                  conv => whnf
                  refine And.intro (by with_reducible rfl) ?_
                  conv => whnf
                  refine And.intro (by with_reducible rfl) ?_
                  conv => whnf
                  refine And.intro (by with_reducible rfl) ?_
                  conv => whnf
                  refine And.intro (by with_reducible rfl) ?_
                  conv => whnf
                  refine And.intro (by with_reducible rfl) ?_
                  conv => whnf
                  refine And.intro (by with_reducible rfl) ?_
                  conv => whnf
                  refine And.intro (by with_reducible rfl) ?_
                  exact True.intro
              · replace hc9 := of_decide_eq_false (Bool.not_eq_true' _ |>.mp hc9)
                contradiction
            · replace hc8 := of_decide_eq_false (Bool.not_eq_true' _ |>.mp hc8)
              (exfalso; simp_all; done)
        · replace hc7 := of_decide_eq_false hc7
          (exfalso; omega)
end Go.Proofs.Ytmchbkmenokkdaa

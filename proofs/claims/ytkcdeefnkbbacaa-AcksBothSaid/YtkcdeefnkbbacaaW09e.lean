/- The law AcksBoth. -/
import Derived.Test.YtkcdeefnkbbacaaW09d
set_option maxRecDepth 100000
set_option linter.unusedSimpArgs false
set_option linter.unusedVariables false
namespace Go.Proofs.Ytkcdeefnkbbacaa
open Go.RowKit
set_option maxHeartbeats 4000000
theorem ex_row_i {α : Type} {f : α → List AV} {l : List α} {i : Nat} {y : α} {K : List AV → Prop} (hy : l[i]? = some y) (h : K (f y)) : ∃ c, (l.map f)[i]? = some c ∧ K c :=
  ⟨f y, by rw [List.getElem?_map, hy]; rfl, h⟩
theorem both_ok {f a b c d n k f' a' b' c' d' m q : Int} (x1 : okA f n k) (x2 : okA f' m q) : okA (bothA (f, a, b, c, d, n, k) (f', a', b', c', d', m, q)).1 (bothA (f, a, b, c, d, n, k) (f', a', b', c', d', m, q)).2.2.2.2.2.1 (bothA (f, a, b, c, d, n, k) (f', a', b', c', d', m, q)).2.2.2.2.2.2 := by
  by_cases h : n < m
  · rw [bothA_y h]
    have := ofB_b m (tl m (h2 n k m q m))
    show okA f' m (ofB m _)
    unfold okA at *; omega
  · rw [bothA_x h]
    have := ofB_b n (tl n (h2 n k m q n))
    show okA f n (ofB n _)
    unfold okA at *; omega
theorem both_nx (f a b c d n k f' a' b' c' d' m q : Int) : (bothA (f, a, b, c, d, n, k) (f', a', b', c', d', m, q)).2.2.2.2.2.1 = if n < m then m else n := by
  by_cases h : n < m
  · rw [bothA_y h, if_pos h]
  · rw [bothA_x h, if_neg h]
theorem hc_good {f a b c d n k f' a' b' c' d' m q : Int} {i : Nat} (x1 : okA f n k) (x2 : okA f' m q) (h3 : ¬ 60000 < n) (h4 : ¬ 60000 < m) (hi : (i : Int) < 8) :
    Good Try.prog 40 [aA (bothA (f, a, b, c, d, n, k) (f', a', b', c', d', m, q)), .int .i64 (IntKind.i64.wrap ((bothA (f, a, b, c, d, n, k) (f', a', b', c', d', m, q)).2.2.2.2.2.1 + (i : Int)))]
      (.bool (hasB n k (IntKind.i64.wrap ((bothA (f, a, b, c, d, n, k) (f', a', b', c', d', m, q)).2.2.2.2.2.1 + (i : Int))) || hasB m q (IntKind.i64.wrap ((bothA (f, a, b, c, d, n, k) (f', a', b', c', d', m, q)).2.2.2.2.2.1 + (i : Int))))) := by
  have hz := both_nx f a b c d n k f' a' b' c' d' m q
  have hb : 0 ≤ (bothA (f, a, b, c, d, n, k) (f', a', b', c', d', m, q)).2.2.2.2.2.1 ∧ (bothA (f, a, b, c, d, n, k) (f', a', b', c', d', m, q)).2.2.2.2.2.1 ≤ 60000 := by
    rw [hz]; unfold okA at x1 x2; split <;> omega
  have e : IntKind.i64.wrap ((bothA (f, a, b, c, d, n, k) (f', a', b', c', d', m, q)).2.2.2.2.2.1 + (i : Int)) = (bothA (f, a, b, c, d, n, k) (f', a', b', c', d', m, q)).2.2.2.2.2.1 + (i : Int) := by rw [wrap_i64]; omega
  rw [e]
  exact (has_good _ _ _ _ _ _ _ _).eq (by rw [both_has hz hb (by omega)])
theorem h_tlm {f a b c d n k : Int} {x : Int} (h : x ∈ tl n (h1 n k n)) : Good Try.prog 40 [eA f a b c d n k, .int .i64 x] (.bool true) := by
  obtain ⟨i, hi⟩ := List.getElem?_of_mem h
  exact h_tl hi
theorem acksBoth_good (f a b c d n k f' a' b' c' d' m q : Int) : Good Try.prog 8 [eA f a b c d n k, eA f' a' b' c' d' m q] (.bool true) := by
  have h8 := tl_len n (h1 n k n)
  have hx := both_nx f a b c d n k f' a' b' c' d' m q
  apply good_at ak8 rfl rfl rfl
  conv => whnf
  refine ⟨_, both_good _ _ _ _ _ _ _ _ _ _ _ _ _ _, ?_⟩
  conv => whnf
  refine And.intro (by exact rfl) ?_
  conv => whnf
  refine ⟨_, cTold_good _ _ _ _ _ _ _, ?_⟩
  conv => whnf
  refine ⟨_, rTold_good _ _ _ _ _ _ _, ?_⟩
  conv => whnf
  refine And.intro (by exact rfl) ?_
  conv => whnf
  refine ⟨_, rboth_good _ _ _ _ _ _ _ _ _ _ _ _ _ _, ?_⟩
  conv => whnf
  refine And.intro (fun hc0 => ?_) (fun hc0 => ?_)
  · simp only [Bool.not_eq_true', Bool.not_eq_false', Bool.and_eq_true, Bool.and_eq_false_imp, Bool.or_eq_true, Bool.or_eq_false_iff, Bool.and_true, Bool.true_and, Bool.not_true, Bool.not_false, decide_eq_true_eq, decide_eq_false_iff_not, Bool.decide_and] at hc0
    conv => whnf
    refine br_l rfl rfl ?_
    conv => whnf
    refine br_l rfl rfl ?_
    conv => whnf
    refine br_l rfl rfl ?_
    conv => whnf
    refine br_l rfl rfl ?_
    conv => whnf
    refine br_r rfl rfl ?_
    conv => whnf
    refine And.intro (fun hc1 => ?_) (fun hc1 => ?_)
    · replace hc1 := of_decide_eq_false (Bool.not_eq_true' _ |>.mp hc1)
      contradiction
    · replace hc1 := of_decide_eq_true (Bool.not_eq_false' _ |>.mp hc1)
      conv => whnf
      refine loop_at (α := Nat) [] (fun i => [(32, .int .i64 (i : Int))]) (fun i => []) (fun i => i ≤ (tl n (h1 n k n)).length) (fun i => (tl n (h1 n k n)).length - i) (0) (st_of ?_) ?_ (by rintro i _; rfl) ?_
      · conv => whnf
        refine And.intro (by with_reducible rfl) ?_
        conv => whnf
        refine And.intro (by with_reducible rfl) ?_
        conv => whnf
        refine And.intro (by with_reducible rfl) ?_
        conv => whnf
        refine And.intro (by with_reducible rfl) ?_
        conv => whnf
        refine And.intro (by with_reducible rfl) ?_
        conv => whnf
        refine And.intro (by with_reducible rfl) ?_
        conv => whnf
        refine And.intro (by with_reducible rfl) ?_
        conv => whnf
        refine And.intro (by with_reducible rfl) ?_
        conv => whnf
        refine And.intro (by with_reducible rfl) ?_
        conv => whnf
        refine And.intro (by with_reducible rfl) ?_
        conv => whnf
        refine And.intro (by with_reducible rfl) ?_
        conv => whnf
        refine And.intro (by with_reducible rfl) ?_
        conv => whnf
        refine And.intro (by with_reducible rfl) ?_
        conv => whnf
        refine And.intro (by with_reducible rfl) ?_
        conv => whnf
        refine And.intro (by with_reducible rfl) ?_
        refine And.intro (by with_reducible rfl) ?_
        conv => whnf
        refine And.intro (by with_reducible rfl) ?_
        refine And.intro (by with_reducible rfl) ?_
        conv => whnf
        refine And.intro (by with_reducible rfl) ?_
        refine And.intro (by with_reducible rfl) ?_
        conv => whnf
        refine And.intro (by with_reducible rfl) ?_
        conv => whnf
        refine And.intro (by with_reducible rfl) ?_
        conv => whnf
        refine And.intro (by with_reducible rfl) ?_
        conv => whnf
        refine And.intro (by with_reducible rfl) ?_
        conv => whnf
        refine And.intro (by with_reducible rfl) ?_
        conv => whnf
        refine And.intro (by with_reducible rfl) ?_
        conv => whnf
        refine And.intro (by with_reducible rfl) ?_
        conv => whnf
        refine And.intro (by with_reducible rfl) ?_
        conv => whnf
        refine And.intro (by with_reducible rfl) ?_
        conv => whnf
        refine And.intro (by with_reducible rfl) ?_
        conv => whnf
        refine And.intro (by with_reducible rfl) ?_
        conv => whnf
        refine And.intro (by with_reducible rfl) ?_
        conv => whnf
        refine And.intro (by with_reducible rfl) ?_
        conv => whnf
        refine And.intro (by with_reducible rfl) ?_
        conv => whnf
        refine And.intro (by with_reducible rfl) ?_
        conv => whnf
        refine And.intro (by with_reducible rfl) ?_
        conv => whnf
        refine And.intro (by with_reducible rfl) ?_
        conv => whnf
        refine And.intro (by with_reducible rfl) ?_
        conv => whnf
        refine And.intro (by with_reducible rfl) ?_
        conv => whnf
        refine And.intro (by with_reducible rfl) ?_
        conv => whnf
        refine And.intro (by with_reducible rfl) ?_
        conv => whnf
        refine And.intro (by with_reducible rfl) ?_
        conv => whnf
        refine And.intro (by with_reducible rfl) ?_
        conv => whnf
        refine And.intro (by with_reducible rfl) ?_
        conv => whnf
        refine And.intro (by with_reducible rfl) ?_
        conv => whnf
        refine And.intro (by with_reducible rfl) ?_
        conv => whnf
        refine And.intro (by with_reducible rfl) ?_
        conv => whnf
        refine And.intro (by with_reducible rfl) ?_
        conv => whnf
        refine And.intro (by with_reducible rfl) ?_
        conv => whnf
        refine And.intro (by with_reducible rfl) ?_
        conv => whnf
        refine And.intro (by with_reducible rfl) ?_
        conv => whnf
        refine And.intro (by with_reducible rfl) ?_
        conv => whnf
        refine And.intro (by with_reducible rfl) ?_
        conv => whnf
        refine And.intro (by with_reducible rfl) ?_
        conv => whnf
        refine And.intro (by with_reducible rfl) ?_
        conv => whnf
        refine And.intro (by with_reducible rfl) ?_
        conv => whnf
        refine And.intro (by with_reducible rfl) ?_
        conv => whnf
        refine And.intro (by with_reducible rfl) ?_
        conv => whnf
        refine And.intro (by with_reducible rfl) ?_
        conv => whnf
        refine And.intro (by with_reducible rfl) ?_
        conv => whnf
        refine And.intro (by with_reducible rfl) ?_
        conv => whnf
        refine And.intro (by with_reducible rfl) ?_
        conv => whnf
        refine And.intro (by with_reducible rfl) ?_
        conv => whnf
        refine And.intro (by with_reducible rfl) ?_
        conv => whnf
        refine And.intro (by with_reducible rfl) ?_
        conv => whnf
        refine And.intro (by with_reducible rfl) ?_
        conv => whnf
        refine And.intro (by with_reducible rfl) ?_
        conv => whnf
        refine And.intro (by with_reducible rfl) ?_
        conv => whnf
        refine And.intro (by with_reducible rfl) ?_
        conv => whnf
        refine And.intro (by with_reducible rfl) ?_
        conv => whnf
        refine And.intro (by with_reducible rfl) ?_
        conv => whnf
        refine And.intro (by with_reducible rfl) ?_
        conv => whnf
        refine And.intro (by with_reducible rfl) ?_
        conv => whnf
        refine And.intro (by with_reducible rfl) ?_
        conv => whnf
        refine And.intro (by with_reducible rfl) ?_
        conv => whnf
        refine And.intro (by with_reducible rfl) ?_
        conv => whnf
        refine And.intro (by with_reducible rfl) ?_
        conv => whnf
        refine And.intro (by with_reducible rfl) ?_
        conv => whnf
        refine And.intro (by with_reducible rfl) ?_
        conv => whnf
        refine And.intro (by with_reducible rfl) ?_
        conv => whnf
        refine And.intro (by with_reducible rfl) ?_
        conv => whnf
        refine And.intro (by with_reducible rfl) ?_
        conv => whnf
        refine And.intro (by with_reducible rfl) ?_
        conv => whnf
        refine And.intro (by with_reducible rfl) ?_
        conv => whnf
        refine And.intro (by with_reducible rfl) ?_
        conv => whnf
        refine And.intro (by with_reducible rfl) ?_
        conv => whnf
        refine And.intro (by with_reducible rfl) ?_
        conv => whnf
        refine And.intro (by with_reducible rfl) ?_
        conv => whnf
        refine And.intro (by with_reducible rfl) ?_
        conv => whnf
        refine And.intro (by with_reducible rfl) ?_
        conv => whnf
        refine And.intro (by with_reducible rfl) ?_
        conv => whnf
        refine And.intro (by with_reducible rfl) ?_
        conv => whnf
        refine And.intro (by with_reducible rfl) ?_
        conv => whnf
        refine And.intro (by with_reducible rfl) ?_
        conv => whnf
        refine And.intro (by with_reducible rfl) ?_
        conv => whnf
        refine And.intro (by with_reducible rfl) ?_
        conv => whnf
        refine And.intro (by with_reducible rfl) ?_
        conv => whnf
        refine And.intro (by decide) ?_
        conv => whnf
        refine And.intro (by with_reducible rfl) ?_
        conv => whnf
        refine And.intro (by with_reducible rfl) ?_
        conv => whnf
        refine And.intro (by with_reducible rfl) ?_
        conv => whnf
        refine And.intro (by with_reducible rfl) ?_
        conv => whnf
        refine And.intro (by with_reducible rfl) ?_
        conv => whnf
        refine And.intro (by with_reducible rfl) ?_
        conv => whnf
        refine And.intro (by with_reducible rfl) ?_
        conv => whnf
        refine And.intro (by with_reducible rfl) ?_
        conv => whnf
        refine And.intro (by with_reducible rfl) ?_
        conv => whnf
        refine And.intro (by with_reducible rfl) ?_
        conv => whnf
        refine And.intro (by with_reducible rfl) ?_
        conv => whnf
        refine And.intro (by with_reducible rfl) ?_
        conv => whnf
        refine And.intro (by with_reducible rfl) ?_
        conv => whnf
        refine And.intro (by with_reducible rfl) ?_
        conv => whnf
        refine And.intro (by with_reducible rfl) ?_
        conv => whnf
        refine And.intro (by with_reducible rfl) ?_
        conv => whnf
        refine And.intro (by with_reducible rfl) ?_
        conv => whnf
        refine And.intro (by with_reducible rfl) ?_
        conv => whnf
        refine And.intro (by with_reducible rfl) ?_
        conv => whnf
        refine And.intro (by with_reducible rfl) ?_
        conv => whnf
        refine And.intro (by with_reducible rfl) ?_
        exact True.intro
      · omega
      · rintro i nextl0 hIl0 ihl0
        try dsimp only at hIl0
        conv => whnf
        refine And.intro (fun hc2 => ?_) (fun hc2 => ?_)
        · replace hc2 := of_decide_eq_true hc2
          conv => whnf
          refine And.intro (by exact rfl) ?_
          conv => whnf
          refine And.intro (by omega) ?_
          refine ex_row (l := tl n (h1 n k n)) (i := i) ?_ fun y hy => ?_
          · (simp only [map_rows, wrap_i64] at *; omega)
          · conv => whnf
            refine And.intro (by omega) ?_
            refine ex_row_i (by assumption) ?_
            conv => whnf
            refine And.intro (fun hc5 => ?_) (fun hc5 => ?_)
            · replace hc5 := of_decide_eq_true (Bool.not_eq_false' _ |>.mp hc5)
              conv => whnf
              refine br_l rfl rfl ?_
              conv => whnf
              refine br_l rfl rfl ?_
              conv => whnf
              refine br_l rfl rfl ?_
              conv => whnf
              refine And.intro (by omega) ?_
              refine ex_row_i (by assumption) ?_
              conv => whnf
              refine br_l rfl rfl ?_
              conv => whnf
              refine br_l rfl rfl ?_
              conv => whnf
              refine ⟨_, h_tlm ?_, ?_⟩
              · (exact List.mem_of_getElem? (by assumption))
              · conv => whnf
                refine br_l rfl rfl ?_
                conv => whnf
                refine br_r rfl rfl ?_
                conv => whnf
                refine br_l rfl rfl ?_
                conv => whnf
                refine br_l rfl rfl ?_
                conv => whnf
                refine br_l rfl rfl ?_
                conv => whnf
                refine And.intro (fun hc7 => ?_) (fun hc7 => ?_)
                · replace hc7 := of_decide_eq_true hc7
                  conv => whnf
                  refine br_l rfl rfl ?_
                  conv => whnf
                  refine br_l rfl rfl ?_
                  conv => whnf
                  refine And.intro (by omega) ?_
                  refine ex_row_i (by assumption) ?_
                  conv => whnf
                  refine br_l rfl rfl ?_
                  conv => whnf
                  refine br_l rfl rfl ?_
                  conv => whnf
                  refine br_l rfl rfl ?_
                  conv => whnf
                  refine br_l rfl rfl ?_
                  conv => whnf
                  refine br_l rfl rfl ?_
                  conv => whnf
                  refine And.intro (by (simp only [map_rows, wrap_i64] at *; omega)) ?_
                  refine ex_row (l := tl n (h1 n k n)) ?_ fun z hz => ?_
                  · (simp only [map_rows, wrap_i64] at *; omega)
                  · conv => whnf
                    refine br_l rfl rfl ?_
                    conv => whnf
                    refine br_l rfl rfl ?_
                    conv => whnf
                    refine br_l rfl rfl ?_
                    conv => whnf
                    refine br_l rfl rfl ?_
                    conv => whnf
                    refine br_r rfl rfl ?_
                    conv => whnf
                    refine And.intro (fun hc10 => ?_) (fun hc10 => ?_)
                    · replace hc10 := of_decide_eq_true hc10
                      (exfalso; have := tl_lt hz hy (by simp only [wrap_i64]; omega); omega)
                    · replace hc10 := of_decide_eq_false hc10
                      conv => whnf
                      refine ihl0 (i + 1) _ ?_ ?_ (st_of ?_)
                      · (simp only [map_rows, wrap_i64] at *; omega)
                      · (simp only [map_rows, wrap_i64] at *; omega)
                      · conv => whnf
                        refine And.intro (by with_reducible rfl) ?_
                        conv => whnf
                        refine And.intro (by with_reducible rfl) ?_
                        conv => whnf
                        refine And.intro (by with_reducible rfl) ?_
                        conv => whnf
                        refine And.intro (by with_reducible rfl) ?_
                        conv => whnf
                        refine And.intro (by with_reducible rfl) ?_
                        conv => whnf
                        refine And.intro (by with_reducible rfl) ?_
                        conv => whnf
                        refine And.intro (by with_reducible rfl) ?_
                        conv => whnf
                        refine And.intro (by with_reducible rfl) ?_
                        conv => whnf
                        refine And.intro (by with_reducible rfl) ?_
                        conv => whnf
                        refine And.intro (by with_reducible rfl) ?_
                        conv => whnf
                        refine And.intro (by with_reducible rfl) ?_
                        conv => whnf
                        refine And.intro (by with_reducible rfl) ?_
                        conv => whnf
                        refine And.intro (by with_reducible rfl) ?_
                        conv => whnf
                        refine And.intro (by with_reducible rfl) ?_
                        conv => whnf
                        refine And.intro (by with_reducible rfl) ?_
                        refine And.intro (by with_reducible rfl) ?_
                        conv => whnf
                        refine And.intro (by with_reducible rfl) ?_
                        refine And.intro (by with_reducible rfl) ?_
                        conv => whnf
                        refine And.intro (by with_reducible rfl) ?_
                        refine And.intro (by with_reducible rfl) ?_
                        conv => whnf
                        refine And.intro (by with_reducible rfl) ?_
                        conv => whnf
                        refine And.intro (by with_reducible rfl) ?_
                        conv => whnf
                        refine And.intro (by with_reducible rfl) ?_
                        conv => whnf
                        refine And.intro (by with_reducible rfl) ?_
                        conv => whnf
                        refine And.intro (by with_reducible rfl) ?_
                        conv => whnf
                        refine And.intro (by with_reducible rfl) ?_
                        conv => whnf
                        refine And.intro (by with_reducible rfl) ?_
                        conv => whnf
                        refine And.intro (by with_reducible rfl) ?_
                        conv => whnf
                        refine And.intro (by with_reducible rfl) ?_
                        conv => whnf
                        refine And.intro (by with_reducible rfl) ?_
                        conv => whnf
                        refine And.intro (by with_reducible rfl) ?_
                        conv => whnf
                        refine And.intro (by with_reducible rfl) ?_
                        conv => whnf
                        refine And.intro (by with_reducible rfl) ?_
                        conv => whnf
                        refine And.intro (by with_reducible rfl) ?_
                        conv => whnf
                        refine And.intro (by with_reducible rfl) ?_
                        conv => whnf
                        refine And.intro (by with_reducible rfl) ?_
                        conv => whnf
                        refine And.intro (by with_reducible rfl) ?_
                        conv => whnf
                        refine And.intro (by with_reducible rfl) ?_
                        conv => whnf
                        refine And.intro (by with_reducible rfl) ?_
                        conv => whnf
                        refine And.intro (by with_reducible rfl) ?_
                        conv => whnf
                        refine And.intro (by with_reducible rfl) ?_
                        conv => whnf
                        refine And.intro (by with_reducible rfl) ?_
                        conv => whnf
                        refine And.intro (by with_reducible rfl) ?_
                        conv => whnf
                        refine And.intro (by with_reducible rfl) ?_
                        conv => whnf
                        refine And.intro (by with_reducible rfl) ?_
                        conv => whnf
                        refine And.intro (by with_reducible rfl) ?_
                        conv => whnf
                        refine And.intro (by with_reducible rfl) ?_
                        conv => whnf
                        refine And.intro (by with_reducible rfl) ?_
                        conv => whnf
                        refine And.intro (by with_reducible rfl) ?_
                        conv => whnf
                        refine And.intro (by with_reducible rfl) ?_
                        conv => whnf
                        refine And.intro (by with_reducible rfl) ?_
                        conv => whnf
                        refine And.intro (by with_reducible rfl) ?_
                        conv => whnf
                        refine And.intro (by with_reducible rfl) ?_
                        conv => whnf
                        refine And.intro (by with_reducible rfl) ?_
                        conv => whnf
                        refine And.intro (by with_reducible rfl) ?_
                        conv => whnf
                        refine And.intro (by with_reducible rfl) ?_
                        conv => whnf
                        refine And.intro (by with_reducible rfl) ?_
                        conv => whnf
                        refine And.intro (by with_reducible rfl) ?_
                        conv => whnf
                        refine And.intro (by with_reducible rfl) ?_
                        conv => whnf
                        refine And.intro (by with_reducible rfl) ?_
                        conv => whnf
                        refine And.intro (by with_reducible rfl) ?_
                        conv => whnf
                        refine And.intro (by with_reducible rfl) ?_
                        conv => whnf
                        refine And.intro (by with_reducible rfl) ?_
                        conv => whnf
                        refine And.intro (by with_reducible rfl) ?_
                        conv => whnf
                        refine And.intro (by with_reducible rfl) ?_
                        conv => whnf
                        refine And.intro (by with_reducible rfl) ?_
                        conv => whnf
                        refine And.intro (by with_reducible rfl) ?_
                        conv => whnf
                        refine And.intro (by with_reducible rfl) ?_
                        conv => whnf
                        refine And.intro (by with_reducible rfl) ?_
                        conv => whnf
                        refine And.intro (by with_reducible rfl) ?_
                        conv => whnf
                        refine And.intro (by with_reducible rfl) ?_
                        conv => whnf
                        refine And.intro (by with_reducible rfl) ?_
                        conv => whnf
                        refine And.intro (by with_reducible rfl) ?_
                        conv => whnf
                        refine And.intro (by with_reducible rfl) ?_
                        conv => whnf
                        refine And.intro (by with_reducible rfl) ?_
                        conv => whnf
                        refine And.intro (by with_reducible rfl) ?_
                        conv => whnf
                        refine And.intro (by with_reducible rfl) ?_
                        conv => whnf
                        refine And.intro (by with_reducible rfl) ?_
                        conv => whnf
                        refine And.intro (by with_reducible rfl) ?_
                        conv => whnf
                        refine And.intro (by with_reducible rfl) ?_
                        conv => whnf
                        refine And.intro (by with_reducible rfl) ?_
                        conv => whnf
                        refine And.intro (by with_reducible rfl) ?_
                        conv => whnf
                        refine And.intro (by with_reducible rfl) ?_
                        conv => whnf
                        refine And.intro (by with_reducible rfl) ?_
                        conv => whnf
                        refine And.intro (by with_reducible rfl) ?_
                        conv => whnf
                        refine And.intro (by with_reducible rfl) ?_
                        conv => whnf
                        refine And.intro (by with_reducible rfl) ?_
                        conv => whnf
                        refine And.intro (by with_reducible rfl) ?_
                        conv => whnf
                        refine And.intro (by with_reducible rfl) ?_
                        conv => whnf
                        refine And.intro (by with_reducible rfl) ?_
                        conv => whnf
                        refine And.intro (by with_reducible rfl) ?_
                        conv => whnf
                        refine And.intro (by with_reducible rfl) ?_
                        conv => whnf
                        refine And.intro (by with_reducible rfl) ?_
                        conv => whnf
                        refine And.intro (by with_reducible rfl) ?_
                        conv => whnf
                        refine And.intro (by with_reducible rfl) ?_
                        conv => whnf
                        refine And.intro (by with_reducible rfl) ?_
                        conv => whnf
                        refine And.intro (by with_reducible rfl) ?_
                        conv => whnf
                        refine And.intro (by (simp only [map_rows, wrap_i64] at *; omega)) ?_
                        conv => whnf
                        refine And.intro (by with_reducible rfl) ?_
                        conv => whnf
                        refine And.intro (by with_reducible rfl) ?_
                        conv => whnf
                        refine And.intro (by with_reducible rfl) ?_
                        conv => whnf
                        refine And.intro (by with_reducible rfl) ?_
                        conv => whnf
                        refine And.intro (by with_reducible rfl) ?_
                        conv => whnf
                        refine And.intro (by with_reducible rfl) ?_
                        conv => whnf
                        refine And.intro (by with_reducible rfl) ?_
                        conv => whnf
                        refine And.intro (by with_reducible rfl) ?_
                        conv => whnf
                        refine And.intro (by with_reducible rfl) ?_
                        conv => whnf
                        refine And.intro (by with_reducible rfl) ?_
                        conv => whnf
                        refine And.intro (by with_reducible rfl) ?_
                        conv => whnf
                        refine And.intro (by with_reducible rfl) ?_
                        conv => whnf
                        refine And.intro (by with_reducible rfl) ?_
                        conv => whnf
                        refine And.intro (by with_reducible rfl) ?_
                        conv => whnf
                        refine And.intro (by with_reducible rfl) ?_
                        conv => whnf
                        refine And.intro (by with_reducible rfl) ?_
                        conv => whnf
                        refine And.intro (by with_reducible rfl) ?_
                        conv => whnf
                        refine And.intro (by with_reducible rfl) ?_
                        conv => whnf
                        refine And.intro (by with_reducible rfl) ?_
                        conv => whnf
                        refine And.intro (by with_reducible rfl) ?_
                        conv => whnf
                        refine And.intro (by with_reducible rfl) ?_
                        exact True.intro
                · replace hc7 := of_decide_eq_false hc7
                  conv => whnf
                  refine br_r rfl rfl ?_
                  conv => whnf
                  refine br_r rfl rfl ?_
                  conv => whnf
                  refine br_r rfl rfl ?_
                  conv => whnf
                  refine br_r rfl rfl ?_
                  conv => whnf
                  refine br_r rfl rfl ?_
                  conv => whnf
                  refine br_r rfl rfl ?_
                  conv => whnf
                  refine br_r rfl rfl ?_
                  conv => whnf
                  refine br_r rfl rfl ?_
                  conv => whnf
                  refine br_r rfl rfl ?_
                  conv => whnf
                  refine br_l rfl rfl ?_
                  conv => whnf
                  refine br_r rfl rfl ?_
                  conv => whnf
                  refine br_r rfl rfl ?_
                  conv => whnf
                  refine br_r rfl rfl ?_
                  conv => whnf
                  refine ihl0 (i + 1) _ ?_ ?_ (st_of ?_)
                  · (simp only [map_rows, wrap_i64] at *; omega)
                  · (simp only [map_rows, wrap_i64] at *; omega)
                  · conv => whnf
                    refine And.intro (by with_reducible rfl) ?_
                    conv => whnf
                    refine And.intro (by with_reducible rfl) ?_
                    conv => whnf
                    refine And.intro (by with_reducible rfl) ?_
                    conv => whnf
                    refine And.intro (by with_reducible rfl) ?_
                    conv => whnf
                    refine And.intro (by with_reducible rfl) ?_
                    conv => whnf
                    refine And.intro (by with_reducible rfl) ?_
                    conv => whnf
                    refine And.intro (by with_reducible rfl) ?_
                    conv => whnf
                    refine And.intro (by with_reducible rfl) ?_
                    conv => whnf
                    refine And.intro (by with_reducible rfl) ?_
                    conv => whnf
                    refine And.intro (by with_reducible rfl) ?_
                    conv => whnf
                    refine And.intro (by with_reducible rfl) ?_
                    conv => whnf
                    refine And.intro (by with_reducible rfl) ?_
                    conv => whnf
                    refine And.intro (by with_reducible rfl) ?_
                    conv => whnf
                    refine And.intro (by with_reducible rfl) ?_
                    conv => whnf
                    refine And.intro (by with_reducible rfl) ?_
                    refine And.intro (by with_reducible rfl) ?_
                    conv => whnf
                    refine And.intro (by with_reducible rfl) ?_
                    refine And.intro (by with_reducible rfl) ?_
                    conv => whnf
                    refine And.intro (by with_reducible rfl) ?_
                    refine And.intro (by with_reducible rfl) ?_
                    conv => whnf
                    refine And.intro (by with_reducible rfl) ?_
                    conv => whnf
                    refine And.intro (by with_reducible rfl) ?_
                    conv => whnf
                    refine And.intro (by with_reducible rfl) ?_
                    conv => whnf
                    refine And.intro (by with_reducible rfl) ?_
                    conv => whnf
                    refine And.intro (by with_reducible rfl) ?_
                    conv => whnf
                    refine And.intro (by with_reducible rfl) ?_
                    conv => whnf
                    refine And.intro (by with_reducible rfl) ?_
                    conv => whnf
                    refine And.intro (by with_reducible rfl) ?_
                    conv => whnf
                    refine And.intro (by with_reducible rfl) ?_
                    conv => whnf
                    refine And.intro (by with_reducible rfl) ?_
                    conv => whnf
                    refine And.intro (by with_reducible rfl) ?_
                    conv => whnf
                    refine And.intro (by with_reducible rfl) ?_
                    conv => whnf
                    refine And.intro (by with_reducible rfl) ?_
                    conv => whnf
                    refine And.intro (by with_reducible rfl) ?_
                    conv => whnf
                    refine And.intro (by with_reducible rfl) ?_
                    conv => whnf
                    refine And.intro (by with_reducible rfl) ?_
                    conv => whnf
                    refine And.intro (by with_reducible rfl) ?_
                    conv => whnf
                    refine And.intro (by with_reducible rfl) ?_
                    conv => whnf
                    refine And.intro (by with_reducible rfl) ?_
                    conv => whnf
                    refine And.intro (by with_reducible rfl) ?_
                    conv => whnf
                    refine And.intro (by with_reducible rfl) ?_
                    conv => whnf
                    refine And.intro (by with_reducible rfl) ?_
                    conv => whnf
                    refine And.intro (by with_reducible rfl) ?_
                    conv => whnf
                    refine And.intro (by with_reducible rfl) ?_
                    conv => whnf
                    refine And.intro (by with_reducible rfl) ?_
                    conv => whnf
                    refine And.intro (by with_reducible rfl) ?_
                    conv => whnf
                    refine And.intro (by with_reducible rfl) ?_
                    conv => whnf
                    refine And.intro (by with_reducible rfl) ?_
                    conv => whnf
                    refine And.intro (by with_reducible rfl) ?_
                    conv => whnf
                    refine And.intro (by with_reducible rfl) ?_
                    conv => whnf
                    refine And.intro (by with_reducible rfl) ?_
                    conv => whnf
                    refine And.intro (by with_reducible rfl) ?_
                    conv => whnf
                    refine And.intro (by with_reducible rfl) ?_
                    conv => whnf
                    refine And.intro (by with_reducible rfl) ?_
                    conv => whnf
                    refine And.intro (by with_reducible rfl) ?_
                    conv => whnf
                    refine And.intro (by with_reducible rfl) ?_
                    conv => whnf
                    refine And.intro (by with_reducible rfl) ?_
                    conv => whnf
                    refine And.intro (by with_reducible rfl) ?_
                    conv => whnf
                    refine And.intro (by with_reducible rfl) ?_
                    conv => whnf
                    refine And.intro (by with_reducible rfl) ?_
                    conv => whnf
                    refine And.intro (by with_reducible rfl) ?_
                    conv => whnf
                    refine And.intro (by with_reducible rfl) ?_
                    conv => whnf
                    refine And.intro (by with_reducible rfl) ?_
                    conv => whnf
                    refine And.intro (by with_reducible rfl) ?_
                    conv => whnf
                    refine And.intro (by with_reducible rfl) ?_
                    conv => whnf
                    refine And.intro (by with_reducible rfl) ?_
                    conv => whnf
                    refine And.intro (by with_reducible rfl) ?_
                    conv => whnf
                    refine And.intro (by with_reducible rfl) ?_
                    conv => whnf
                    refine And.intro (by with_reducible rfl) ?_
                    conv => whnf
                    refine And.intro (by with_reducible rfl) ?_
                    conv => whnf
                    refine And.intro (by with_reducible rfl) ?_
                    conv => whnf
                    refine And.intro (by with_reducible rfl) ?_
                    conv => whnf
                    refine And.intro (by with_reducible rfl) ?_
                    conv => whnf
                    refine And.intro (by with_reducible rfl) ?_
                    conv => whnf
                    refine And.intro (by with_reducible rfl) ?_
                    conv => whnf
                    refine And.intro (by with_reducible rfl) ?_
                    conv => whnf
                    refine And.intro (by with_reducible rfl) ?_
                    conv => whnf
                    refine And.intro (by with_reducible rfl) ?_
                    conv => whnf
                    refine And.intro (by with_reducible rfl) ?_
                    conv => whnf
                    refine And.intro (by with_reducible rfl) ?_
                    conv => whnf
                    refine And.intro (by with_reducible rfl) ?_
                    conv => whnf
                    refine And.intro (by with_reducible rfl) ?_
                    conv => whnf
                    refine And.intro (by with_reducible rfl) ?_
                    conv => whnf
                    refine And.intro (by with_reducible rfl) ?_
                    conv => whnf
                    refine And.intro (by with_reducible rfl) ?_
                    conv => whnf
                    refine And.intro (by with_reducible rfl) ?_
                    conv => whnf
                    refine And.intro (by with_reducible rfl) ?_
                    conv => whnf
                    refine And.intro (by with_reducible rfl) ?_
                    conv => whnf
                    refine And.intro (by with_reducible rfl) ?_
                    conv => whnf
                    refine And.intro (by with_reducible rfl) ?_
                    conv => whnf
                    refine And.intro (by with_reducible rfl) ?_
                    conv => whnf
                    refine And.intro (by with_reducible rfl) ?_
                    conv => whnf
                    refine And.intro (by with_reducible rfl) ?_
                    conv => whnf
                    refine And.intro (by with_reducible rfl) ?_
                    conv => whnf
                    refine And.intro (by with_reducible rfl) ?_
                    conv => whnf
                    refine And.intro (by with_reducible rfl) ?_
                    conv => whnf
                    refine And.intro (by with_reducible rfl) ?_
                    conv => whnf
                    refine And.intro (by (simp only [map_rows, wrap_i64] at *; omega)) ?_
                    conv => whnf
                    refine And.intro (by with_reducible rfl) ?_
                    conv => whnf
                    refine And.intro (by with_reducible rfl) ?_
                    conv => whnf
                    refine And.intro (by with_reducible rfl) ?_
                    conv => whnf
                    refine And.intro (by with_reducible rfl) ?_
                    conv => whnf
                    refine And.intro (by with_reducible rfl) ?_
                    conv => whnf
                    refine And.intro (by with_reducible rfl) ?_
                    conv => whnf
                    refine And.intro (by with_reducible rfl) ?_
                    conv => whnf
                    refine And.intro (by with_reducible rfl) ?_
                    conv => whnf
                    refine And.intro (by with_reducible rfl) ?_
                    conv => whnf
                    refine And.intro (by with_reducible rfl) ?_
                    conv => whnf
                    refine And.intro (by with_reducible rfl) ?_
                    conv => whnf
                    refine And.intro (by with_reducible rfl) ?_
                    conv => whnf
                    refine And.intro (by with_reducible rfl) ?_
                    conv => whnf
                    refine And.intro (by with_reducible rfl) ?_
                    conv => whnf
                    refine And.intro (by with_reducible rfl) ?_
                    conv => whnf
                    refine And.intro (by with_reducible rfl) ?_
                    conv => whnf
                    refine And.intro (by with_reducible rfl) ?_
                    conv => whnf
                    refine And.intro (by with_reducible rfl) ?_
                    conv => whnf
                    refine And.intro (by with_reducible rfl) ?_
                    conv => whnf
                    refine And.intro (by with_reducible rfl) ?_
                    conv => whnf
                    refine And.intro (by with_reducible rfl) ?_
                    exact True.intro
            · replace hc5 := of_decide_eq_false (Bool.not_eq_true' _ |>.mp hc5)
              contradiction
        · replace hc2 := of_decide_eq_false hc2
          conv => whnf
          refine ⟨_, aright_good _ _ _ _ _ _ _, ?_⟩
          conv => whnf
          refine And.intro (fun hc11 => ?_) (fun hc11 => ?_)
          · replace hc11 := of_decide_eq_true (Bool.not_eq_false' _ |>.mp hc11)
            conv => whnf
            refine br_l rfl rfl ?_
            conv => whnf
            refine ⟨_, aright_good _ _ _ _ _ _ _, ?_⟩
            conv => whnf
            refine br_l rfl rfl ?_
            conv => whnf
            refine br_r rfl rfl ?_
            conv => whnf
            refine And.intro (fun hc12 => ?_) (fun hc12 => ?_)
            · replace hc12 := of_decide_eq_true (Bool.not_eq_false' _ |>.mp hc12)
              conv => whnf
              refine br_l rfl rfl ?_
              conv => whnf
              refine br_l rfl rfl ?_
              conv => whnf
              refine br_r rfl rfl ?_
              conv => whnf
              refine And.intro (fun hc13 => ?_) (fun hc13 => ?_)
              · replace hc13 := of_decide_eq_false hc13
                conv => whnf
                refine br_l rfl rfl ?_
                conv => whnf
                refine br_l rfl rfl ?_
                conv => whnf
                refine br_r rfl rfl ?_
                conv => whnf
                refine And.intro (fun hc14 => ?_) (fun hc14 => ?_)
                · replace hc14 := of_decide_eq_true hc14
                  conv => whnf
                  refine ⟨_, awake9_good, ?_⟩
                  conv => whnf
                  refine AV.of_eqv ?_
                  conv => whnf
                  refine And.intro (by with_reducible rfl) ?_
                  exact True.intro
                · replace hc14 := of_decide_eq_false hc14
                  conv => whnf
                  refine loop_at (α := Nat) [] (fun i => [(89, .int .i64 (i : Int))]) (fun i => []) (fun i => i ≤ 8) (fun i => 8 - i) (0) (st_of ?_) ?_ (by rintro i _; rfl) ?_
                  · conv => whnf
                    refine And.intro (by with_reducible rfl) ?_
                    conv => whnf
                    refine And.intro (by with_reducible rfl) ?_
                    conv => whnf
                    refine And.intro (by with_reducible rfl) ?_
                    conv => whnf
                    refine And.intro (by with_reducible rfl) ?_
                    conv => whnf
                    refine And.intro (by with_reducible rfl) ?_
                    conv => whnf
                    refine And.intro (by with_reducible rfl) ?_
                    conv => whnf
                    refine And.intro (by with_reducible rfl) ?_
                    conv => whnf
                    refine And.intro (by with_reducible rfl) ?_
                    conv => whnf
                    refine And.intro (by with_reducible rfl) ?_
                    conv => whnf
                    refine And.intro (by with_reducible rfl) ?_
                    conv => whnf
                    refine And.intro (by with_reducible rfl) ?_
                    conv => whnf
                    refine And.intro (by with_reducible rfl) ?_
                    conv => whnf
                    refine And.intro (by with_reducible rfl) ?_
                    conv => whnf
                    refine And.intro (by with_reducible rfl) ?_
                    conv => whnf
                    refine And.intro (by with_reducible rfl) ?_
                    refine And.intro (by with_reducible rfl) ?_
                    conv => whnf
                    refine And.intro (by with_reducible rfl) ?_
                    refine And.intro (by with_reducible rfl) ?_
                    conv => whnf
                    refine And.intro (by with_reducible rfl) ?_
                    refine And.intro (by with_reducible rfl) ?_
                    conv => whnf
                    refine And.intro (by with_reducible rfl) ?_
                    conv => whnf
                    refine And.intro (by with_reducible rfl) ?_
                    conv => whnf
                    refine And.intro (by with_reducible rfl) ?_
                    conv => whnf
                    refine And.intro (by with_reducible rfl) ?_
                    conv => whnf
                    refine And.intro (by with_reducible rfl) ?_
                    conv => whnf
                    refine And.intro (by with_reducible rfl) ?_
                    conv => whnf
                    refine And.intro (by with_reducible rfl) ?_
                    conv => whnf
                    refine And.intro (by with_reducible rfl) ?_
                    conv => whnf
                    refine And.intro (by with_reducible rfl) ?_
                    conv => whnf
                    refine And.intro (by with_reducible rfl) ?_
                    conv => whnf
                    refine And.intro (by with_reducible rfl) ?_
                    conv => whnf
                    refine And.intro (by with_reducible rfl) ?_
                    conv => whnf
                    refine And.intro (by with_reducible rfl) ?_
                    conv => whnf
                    refine And.intro (by with_reducible rfl) ?_
                    conv => whnf
                    refine And.intro (by with_reducible rfl) ?_
                    conv => whnf
                    refine And.intro (by with_reducible rfl) ?_
                    conv => whnf
                    refine And.intro (by with_reducible rfl) ?_
                    conv => whnf
                    refine And.intro (by with_reducible rfl) ?_
                    conv => whnf
                    refine And.intro (by with_reducible rfl) ?_
                    conv => whnf
                    refine And.intro (by with_reducible rfl) ?_
                    conv => whnf
                    refine And.intro (by with_reducible rfl) ?_
                    conv => whnf
                    refine And.intro (by with_reducible rfl) ?_
                    conv => whnf
                    refine And.intro (by with_reducible rfl) ?_
                    conv => whnf
                    refine And.intro (by with_reducible rfl) ?_
                    conv => whnf
                    refine And.intro (by with_reducible rfl) ?_
                    conv => whnf
                    refine And.intro (by with_reducible rfl) ?_
                    conv => whnf
                    refine And.intro (by with_reducible rfl) ?_
                    conv => whnf
                    refine And.intro (by with_reducible rfl) ?_
                    conv => whnf
                    refine And.intro (by with_reducible rfl) ?_
                    conv => whnf
                    refine And.intro (by with_reducible rfl) ?_
                    conv => whnf
                    refine And.intro (by with_reducible rfl) ?_
                    conv => whnf
                    refine And.intro (by with_reducible rfl) ?_
                    conv => whnf
                    refine And.intro (by with_reducible rfl) ?_
                    conv => whnf
                    refine And.intro (by with_reducible rfl) ?_
                    conv => whnf
                    refine And.intro (by with_reducible rfl) ?_
                    conv => whnf
                    refine And.intro (by with_reducible rfl) ?_
                    conv => whnf
                    refine And.intro (by with_reducible rfl) ?_
                    conv => whnf
                    refine And.intro (by with_reducible rfl) ?_
                    conv => whnf
                    refine And.intro (by with_reducible rfl) ?_
                    conv => whnf
                    refine And.intro (by with_reducible rfl) ?_
                    conv => whnf
                    refine And.intro (by with_reducible rfl) ?_
                    conv => whnf
                    refine And.intro (by with_reducible rfl) ?_
                    conv => whnf
                    refine And.intro (by with_reducible rfl) ?_
                    conv => whnf
                    refine And.intro (by with_reducible rfl) ?_
                    conv => whnf
                    refine And.intro (by with_reducible rfl) ?_
                    conv => whnf
                    refine And.intro (by with_reducible rfl) ?_
                    conv => whnf
                    refine And.intro (by with_reducible rfl) ?_
                    conv => whnf
                    refine And.intro (by with_reducible rfl) ?_
                    conv => whnf
                    refine And.intro (by with_reducible rfl) ?_
                    conv => whnf
                    refine And.intro (by with_reducible rfl) ?_
                    conv => whnf
                    refine And.intro (by with_reducible rfl) ?_
                    conv => whnf
                    refine And.intro (by with_reducible rfl) ?_
                    conv => whnf
                    refine And.intro (by with_reducible rfl) ?_
                    conv => whnf
                    refine And.intro (by with_reducible rfl) ?_
                    conv => whnf
                    refine And.intro (by with_reducible rfl) ?_
                    conv => whnf
                    refine And.intro (by with_reducible rfl) ?_
                    conv => whnf
                    refine And.intro (by with_reducible rfl) ?_
                    conv => whnf
                    refine And.intro (by with_reducible rfl) ?_
                    conv => whnf
                    refine And.intro (by with_reducible rfl) ?_
                    conv => whnf
                    refine And.intro (by with_reducible rfl) ?_
                    conv => whnf
                    refine And.intro (by with_reducible rfl) ?_
                    conv => whnf
                    refine And.intro (by with_reducible rfl) ?_
                    conv => whnf
                    refine And.intro (by with_reducible rfl) ?_
                    conv => whnf
                    refine And.intro (by with_reducible rfl) ?_
                    conv => whnf
                    refine And.intro (by with_reducible rfl) ?_
                    conv => whnf
                    refine And.intro (by with_reducible rfl) ?_
                    conv => whnf
                    refine And.intro (by with_reducible rfl) ?_
                    conv => whnf
                    refine And.intro (by with_reducible rfl) ?_
                    conv => whnf
                    refine And.intro (by with_reducible rfl) ?_
                    conv => whnf
                    refine And.intro (by with_reducible rfl) ?_
                    conv => whnf
                    refine And.intro (by with_reducible rfl) ?_
                    conv => whnf
                    refine And.intro (by with_reducible rfl) ?_
                    conv => whnf
                    refine And.intro (by with_reducible rfl) ?_
                    conv => whnf
                    refine And.intro (by with_reducible rfl) ?_
                    conv => whnf
                    refine And.intro (by with_reducible rfl) ?_
                    conv => whnf
                    refine And.intro (by with_reducible rfl) ?_
                    conv => whnf
                    refine And.intro (by with_reducible rfl) ?_
                    conv => whnf
                    refine And.intro (by with_reducible rfl) ?_
                    conv => whnf
                    refine And.intro (by with_reducible rfl) ?_
                    conv => whnf
                    refine And.intro (by with_reducible rfl) ?_
                    conv => whnf
                    refine And.intro (by with_reducible rfl) ?_
                    conv => whnf
                    refine And.intro (by with_reducible rfl) ?_
                    conv => whnf
                    refine And.intro (by with_reducible rfl) ?_
                    conv => whnf
                    refine And.intro (by with_reducible rfl) ?_
                    conv => whnf
                    refine And.intro (by with_reducible rfl) ?_
                    conv => whnf
                    refine And.intro (by with_reducible rfl) ?_
                    conv => whnf
                    refine And.intro (by with_reducible rfl) ?_
                    conv => whnf
                    refine And.intro (by with_reducible rfl) ?_
                    conv => whnf
                    refine And.intro (by with_reducible rfl) ?_
                    conv => whnf
                    refine And.intro (by with_reducible rfl) ?_
                    conv => whnf
                    refine And.intro (by with_reducible rfl) ?_
                    conv => whnf
                    refine And.intro (by with_reducible rfl) ?_
                    conv => whnf
                    refine And.intro (by with_reducible rfl) ?_
                    conv => whnf
                    refine And.intro (by with_reducible rfl) ?_
                    conv => whnf
                    refine And.intro (by with_reducible rfl) ?_
                    conv => whnf
                    refine And.intro (by with_reducible rfl) ?_
                    conv => whnf
                    refine And.intro (by with_reducible rfl) ?_
                    conv => whnf
                    refine And.intro (by with_reducible rfl) ?_
                    conv => whnf
                    refine And.intro (by with_reducible rfl) ?_
                    conv => whnf
                    refine And.intro (by with_reducible rfl) ?_
                    conv => whnf
                    refine And.intro (by with_reducible rfl) ?_
                    refine And.intro (by with_reducible rfl) ?_
                    conv => whnf
                    refine And.intro (by with_reducible rfl) ?_
                    conv => whnf
                    refine And.intro (by with_reducible rfl) ?_
                    conv => whnf
                    refine And.intro (by with_reducible rfl) ?_
                    conv => whnf
                    refine And.intro (by with_reducible rfl) ?_
                    conv => whnf
                    refine And.intro (by with_reducible rfl) ?_
                    refine And.intro (by with_reducible rfl) ?_
                    conv => whnf
                    refine And.intro (by with_reducible rfl) ?_
                    conv => whnf
                    refine And.intro (by with_reducible rfl) ?_
                    conv => whnf
                    refine And.intro (by with_reducible rfl) ?_
                    conv => whnf
                    refine And.intro (by decide) ?_
                    conv => whnf
                    refine And.intro (by with_reducible rfl) ?_
                    conv => whnf
                    refine And.intro (by with_reducible rfl) ?_
                    conv => whnf
                    refine And.intro (by with_reducible rfl) ?_
                    conv => whnf
                    refine And.intro (by with_reducible rfl) ?_
                    conv => whnf
                    refine And.intro (by with_reducible rfl) ?_
                    conv => whnf
                    refine And.intro (by with_reducible rfl) ?_
                    conv => whnf
                    refine And.intro (by with_reducible rfl) ?_
                    conv => whnf
                    refine And.intro (by with_reducible rfl) ?_
                    conv => whnf
                    refine And.intro (by with_reducible rfl) ?_
                    conv => whnf
                    refine And.intro (by with_reducible rfl) ?_
                    conv => whnf
                    refine And.intro (by with_reducible rfl) ?_
                    conv => whnf
                    refine And.intro (by with_reducible rfl) ?_
                    conv => whnf
                    refine And.intro (by with_reducible rfl) ?_
                    conv => whnf
                    refine And.intro (by with_reducible rfl) ?_
                    conv => whnf
                    refine And.intro (by with_reducible rfl) ?_
                    conv => whnf
                    refine And.intro (by with_reducible rfl) ?_
                    conv => whnf
                    refine And.intro (by with_reducible rfl) ?_
                    conv => whnf
                    refine And.intro (by with_reducible rfl) ?_
                    conv => whnf
                    refine And.intro (by with_reducible rfl) ?_
                    conv => whnf
                    refine And.intro (by with_reducible rfl) ?_
                    conv => whnf
                    refine And.intro (by with_reducible rfl) ?_
                    exact True.intro
                  · decide
                  · rintro i nextl1 hIl1 ihl1
                    try dsimp only at hIl1
                    conv => whnf
                    refine And.intro (fun hc15 => ?_) (fun hc15 => ?_)
                    · replace hc15 := of_decide_eq_true hc15
                      conv => whnf
                      refine And.intro (by exact rfl) ?_
                      conv => whnf
                      refine ⟨_, hc_good ?_ ?_ ?_ ?_ ?_, ?_⟩
                      · assumption
                      · assumption
                      · assumption
                      · assumption
                      · assumption
                      · conv => whnf
                        refine ⟨_, has_good _ _ _ _ _ _ _ _, ?_⟩
                        conv => whnf
                        refine And.intro (fun hc16 => ?_) (fun hc16 => ?_)
                        · conv => whnf
                          refine br_l rfl rfl ?_
                          conv => whnf
                          refine br_l rfl rfl ?_
                          conv => whnf
                          refine ⟨_, has_good _ _ _ _ _ _ _ _, ?_⟩
                          conv => whnf
                          refine br_r rfl rfl ?_
                          conv => whnf
                          refine And.intro (fun hc17 => ?_) (fun hc17 => ?_)
                          · replace hc17 := of_decide_eq_false (Bool.not_eq_true' _ |>.mp hc17)
                            (exfalso; simp_all; done)
                          · replace hc17 := of_decide_eq_true (Bool.not_eq_false' _ |>.mp hc17)
                            conv => whnf
                            refine ihl1 (i + 1) _ ?_ ?_ (st_of ?_)
                            · omega
                            · omega
                            · conv => whnf
                              refine And.intro (by with_reducible rfl) ?_
                              conv => whnf
                              refine And.intro (by with_reducible rfl) ?_
                              conv => whnf
                              refine And.intro (by with_reducible rfl) ?_
                              conv => whnf
                              refine And.intro (by with_reducible rfl) ?_
                              conv => whnf
                              refine And.intro (by with_reducible rfl) ?_
                              conv => whnf
                              refine And.intro (by with_reducible rfl) ?_
                              conv => whnf
                              refine And.intro (by with_reducible rfl) ?_
                              conv => whnf
                              refine And.intro (by with_reducible rfl) ?_
                              conv => whnf
                              refine And.intro (by with_reducible rfl) ?_
                              conv => whnf
                              refine And.intro (by with_reducible rfl) ?_
                              conv => whnf
                              refine And.intro (by with_reducible rfl) ?_
                              conv => whnf
                              refine And.intro (by with_reducible rfl) ?_
                              conv => whnf
                              refine And.intro (by with_reducible rfl) ?_
                              conv => whnf
                              refine And.intro (by with_reducible rfl) ?_
                              conv => whnf
                              refine And.intro (by with_reducible rfl) ?_
                              refine And.intro (by with_reducible rfl) ?_
                              conv => whnf
                              refine And.intro (by with_reducible rfl) ?_
                              refine And.intro (by with_reducible rfl) ?_
                              conv => whnf
                              refine And.intro (by with_reducible rfl) ?_
                              refine And.intro (by with_reducible rfl) ?_
                              conv => whnf
                              refine And.intro (by with_reducible rfl) ?_
                              conv => whnf
                              refine And.intro (by with_reducible rfl) ?_
                              conv => whnf
                              refine And.intro (by with_reducible rfl) ?_
                              conv => whnf
                              refine And.intro (by with_reducible rfl) ?_
                              conv => whnf
                              refine And.intro (by with_reducible rfl) ?_
                              conv => whnf
                              refine And.intro (by with_reducible rfl) ?_
                              conv => whnf
                              refine And.intro (by with_reducible rfl) ?_
                              conv => whnf
                              refine And.intro (by with_reducible rfl) ?_
                              conv => whnf
                              refine And.intro (by with_reducible rfl) ?_
                              conv => whnf
                              refine And.intro (by with_reducible rfl) ?_
                              conv => whnf
                              refine And.intro (by with_reducible rfl) ?_
                              conv => whnf
                              refine And.intro (by with_reducible rfl) ?_
                              conv => whnf
                              refine And.intro (by with_reducible rfl) ?_
                              conv => whnf
                              refine And.intro (by with_reducible rfl) ?_
                              conv => whnf
                              refine And.intro (by with_reducible rfl) ?_
                              conv => whnf
                              refine And.intro (by with_reducible rfl) ?_
                              conv => whnf
                              refine And.intro (by with_reducible rfl) ?_
                              conv => whnf
                              refine And.intro (by with_reducible rfl) ?_
                              conv => whnf
                              refine And.intro (by with_reducible rfl) ?_
                              conv => whnf
                              refine And.intro (by with_reducible rfl) ?_
                              conv => whnf
                              refine And.intro (by with_reducible rfl) ?_
                              conv => whnf
                              refine And.intro (by with_reducible rfl) ?_
                              conv => whnf
                              refine And.intro (by with_reducible rfl) ?_
                              conv => whnf
                              refine And.intro (by with_reducible rfl) ?_
                              conv => whnf
                              refine And.intro (by with_reducible rfl) ?_
                              conv => whnf
                              refine And.intro (by with_reducible rfl) ?_
                              conv => whnf
                              refine And.intro (by with_reducible rfl) ?_
                              conv => whnf
                              refine And.intro (by with_reducible rfl) ?_
                              conv => whnf
                              refine And.intro (by with_reducible rfl) ?_
                              conv => whnf
                              refine And.intro (by with_reducible rfl) ?_
                              conv => whnf
                              refine And.intro (by with_reducible rfl) ?_
                              conv => whnf
                              refine And.intro (by with_reducible rfl) ?_
                              conv => whnf
                              refine And.intro (by with_reducible rfl) ?_
                              conv => whnf
                              refine And.intro (by with_reducible rfl) ?_
                              conv => whnf
                              refine And.intro (by with_reducible rfl) ?_
                              conv => whnf
                              refine And.intro (by with_reducible rfl) ?_
                              conv => whnf
                              refine And.intro (by with_reducible rfl) ?_
                              conv => whnf
                              refine And.intro (by with_reducible rfl) ?_
                              conv => whnf
                              refine And.intro (by with_reducible rfl) ?_
                              conv => whnf
                              refine And.intro (by with_reducible rfl) ?_
                              conv => whnf
                              refine And.intro (by with_reducible rfl) ?_
                              conv => whnf
                              refine And.intro (by with_reducible rfl) ?_
                              conv => whnf
                              refine And.intro (by with_reducible rfl) ?_
                              conv => whnf
                              refine And.intro (by with_reducible rfl) ?_
                              conv => whnf
                              refine And.intro (by with_reducible rfl) ?_
                              conv => whnf
                              refine And.intro (by with_reducible rfl) ?_
                              conv => whnf
                              refine And.intro (by with_reducible rfl) ?_
                              conv => whnf
                              refine And.intro (by with_reducible rfl) ?_
                              conv => whnf
                              refine And.intro (by with_reducible rfl) ?_
                              conv => whnf
                              refine And.intro (by with_reducible rfl) ?_
                              conv => whnf
                              refine And.intro (by with_reducible rfl) ?_
                              conv => whnf
                              refine And.intro (by with_reducible rfl) ?_
                              conv => whnf
                              refine And.intro (by with_reducible rfl) ?_
                              conv => whnf
                              refine And.intro (by with_reducible rfl) ?_
                              conv => whnf
                              refine And.intro (by with_reducible rfl) ?_
                              conv => whnf
                              refine And.intro (by with_reducible rfl) ?_
                              conv => whnf
                              refine And.intro (by with_reducible rfl) ?_
                              conv => whnf
                              refine And.intro (by with_reducible rfl) ?_
                              conv => whnf
                              refine And.intro (by with_reducible rfl) ?_
                              conv => whnf
                              refine And.intro (by with_reducible rfl) ?_
                              conv => whnf
                              refine And.intro (by with_reducible rfl) ?_
                              conv => whnf
                              refine And.intro (by with_reducible rfl) ?_
                              conv => whnf
                              refine And.intro (by with_reducible rfl) ?_
                              conv => whnf
                              refine And.intro (by with_reducible rfl) ?_
                              conv => whnf
                              refine And.intro (by with_reducible rfl) ?_
                              conv => whnf
                              refine And.intro (by with_reducible rfl) ?_
                              conv => whnf
                              refine And.intro (by with_reducible rfl) ?_
                              conv => whnf
                              refine And.intro (by with_reducible rfl) ?_
                              conv => whnf
                              refine And.intro (by with_reducible rfl) ?_
                              conv => whnf
                              refine And.intro (by with_reducible rfl) ?_
                              conv => whnf
                              refine And.intro (by with_reducible rfl) ?_
                              conv => whnf
                              refine And.intro (by with_reducible rfl) ?_
                              conv => whnf
                              refine And.intro (by with_reducible rfl) ?_
                              conv => whnf
                              refine And.intro (by with_reducible rfl) ?_
                              conv => whnf
                              refine And.intro (by with_reducible rfl) ?_
                              conv => whnf
                              refine And.intro (by with_reducible rfl) ?_
                              conv => whnf
                              refine And.intro (by with_reducible rfl) ?_
                              conv => whnf
                              refine And.intro (by with_reducible rfl) ?_
                              conv => whnf
                              refine And.intro (by with_reducible rfl) ?_
                              conv => whnf
                              refine And.intro (by with_reducible rfl) ?_
                              conv => whnf
                              refine And.intro (by with_reducible rfl) ?_
                              conv => whnf
                              refine And.intro (by with_reducible rfl) ?_
                              conv => whnf
                              refine And.intro (by with_reducible rfl) ?_
                              conv => whnf
                              refine And.intro (by with_reducible rfl) ?_
                              conv => whnf
                              refine And.intro (by with_reducible rfl) ?_
                              conv => whnf
                              refine And.intro (by with_reducible rfl) ?_
                              conv => whnf
                              refine And.intro (by with_reducible rfl) ?_
                              conv => whnf
                              refine And.intro (by with_reducible rfl) ?_
                              conv => whnf
                              refine And.intro (by with_reducible rfl) ?_
                              conv => whnf
                              refine And.intro (by with_reducible rfl) ?_
                              conv => whnf
                              refine And.intro (by with_reducible rfl) ?_
                              conv => whnf
                              refine And.intro (by with_reducible rfl) ?_
                              conv => whnf
                              refine And.intro (by with_reducible rfl) ?_
                              conv => whnf
                              refine And.intro (by with_reducible rfl) ?_
                              conv => whnf
                              refine And.intro (by with_reducible rfl) ?_
                              conv => whnf
                              refine And.intro (by with_reducible rfl) ?_
                              conv => whnf
                              refine And.intro (by with_reducible rfl) ?_
                              conv => whnf
                              refine And.intro (by with_reducible rfl) ?_
                              conv => whnf
                              refine And.intro (by with_reducible rfl) ?_
                              conv => whnf
                              refine And.intro (by with_reducible rfl) ?_
                              conv => whnf
                              refine And.intro (by with_reducible rfl) ?_
                              refine And.intro (by with_reducible rfl) ?_
                              conv => whnf
                              refine And.intro (by with_reducible rfl) ?_
                              conv => whnf
                              refine And.intro (by with_reducible rfl) ?_
                              conv => whnf
                              refine And.intro (by with_reducible rfl) ?_
                              conv => whnf
                              refine And.intro (by with_reducible rfl) ?_
                              conv => whnf
                              refine And.intro (by with_reducible rfl) ?_
                              refine And.intro (by with_reducible rfl) ?_
                              conv => whnf
                              refine And.intro (by with_reducible rfl) ?_
                              conv => whnf
                              refine And.intro (by with_reducible rfl) ?_
                              conv => whnf
                              refine And.intro (by with_reducible rfl) ?_
                              conv => whnf
                              refine And.intro (by (simp only [map_rows, wrap_i64] at *; omega)) ?_
                              conv => whnf
                              refine And.intro (by with_reducible rfl) ?_
                              conv => whnf
                              refine And.intro (by with_reducible rfl) ?_
                              conv => whnf
                              refine And.intro (by with_reducible rfl) ?_
                              conv => whnf
                              refine And.intro (by with_reducible rfl) ?_
                              conv => whnf
                              refine And.intro (by with_reducible rfl) ?_
                              conv => whnf
                              refine And.intro (by with_reducible rfl) ?_
                              conv => whnf
                              refine And.intro (by with_reducible rfl) ?_
                              conv => whnf
                              refine And.intro (by with_reducible rfl) ?_
                              conv => whnf
                              refine And.intro (by with_reducible rfl) ?_
                              conv => whnf
                              refine And.intro (by with_reducible rfl) ?_
                              conv => whnf
                              refine And.intro (by with_reducible rfl) ?_
                              conv => whnf
                              refine And.intro (by with_reducible rfl) ?_
                              conv => whnf
                              refine And.intro (by with_reducible rfl) ?_
                              conv => whnf
                              refine And.intro (by with_reducible rfl) ?_
                              conv => whnf
                              refine And.intro (by with_reducible rfl) ?_
                              conv => whnf
                              refine And.intro (by with_reducible rfl) ?_
                              conv => whnf
                              refine And.intro (by with_reducible rfl) ?_
                              conv => whnf
                              refine And.intro (by with_reducible rfl) ?_
                              conv => whnf
                              refine And.intro (by with_reducible rfl) ?_
                              conv => whnf
                              refine And.intro (by with_reducible rfl) ?_
                              conv => whnf
                              refine And.intro (by with_reducible rfl) ?_
                              exact True.intro
                        · simp only [Bool.not_eq_true', Bool.not_eq_false', Bool.and_eq_true, Bool.and_eq_false_imp, Bool.or_eq_true, Bool.or_eq_false_iff, Bool.and_true, Bool.true_and, Bool.not_true, Bool.not_false, decide_eq_true_eq, decide_eq_false_iff_not, Bool.decide_and] at hc16
                          conv => whnf
                          refine br_r rfl rfl ?_
                          conv => whnf
                          refine br_r rfl rfl ?_
                          conv => whnf
                          refine br_l rfl rfl ?_
                          conv => whnf
                          refine And.intro (fun hc18 => ?_) (fun hc18 => ?_)
                          · replace hc18 := of_decide_eq_false (Bool.not_eq_true' _ |>.mp hc18)
                            (exfalso; simp_all; done)
                          · replace hc18 := of_decide_eq_true (Bool.not_eq_false' _ |>.mp hc18)
                            conv => whnf
                            refine ihl1 (i + 1) _ ?_ ?_ (st_of ?_)
                            · omega
                            · omega
                            · conv => whnf
                              refine And.intro (by with_reducible rfl) ?_
                              conv => whnf
                              refine And.intro (by with_reducible rfl) ?_
                              conv => whnf
                              refine And.intro (by with_reducible rfl) ?_
                              conv => whnf
                              refine And.intro (by with_reducible rfl) ?_
                              conv => whnf
                              refine And.intro (by with_reducible rfl) ?_
                              conv => whnf
                              refine And.intro (by with_reducible rfl) ?_
                              conv => whnf
                              refine And.intro (by with_reducible rfl) ?_
                              conv => whnf
                              refine And.intro (by with_reducible rfl) ?_
                              conv => whnf
                              refine And.intro (by with_reducible rfl) ?_
                              conv => whnf
                              refine And.intro (by with_reducible rfl) ?_
                              conv => whnf
                              refine And.intro (by with_reducible rfl) ?_
                              conv => whnf
                              refine And.intro (by with_reducible rfl) ?_
                              conv => whnf
                              refine And.intro (by with_reducible rfl) ?_
                              conv => whnf
                              refine And.intro (by with_reducible rfl) ?_
                              conv => whnf
                              refine And.intro (by with_reducible rfl) ?_
                              refine And.intro (by with_reducible rfl) ?_
                              conv => whnf
                              refine And.intro (by with_reducible rfl) ?_
                              refine And.intro (by with_reducible rfl) ?_
                              conv => whnf
                              refine And.intro (by with_reducible rfl) ?_
                              refine And.intro (by with_reducible rfl) ?_
                              conv => whnf
                              refine And.intro (by with_reducible rfl) ?_
                              conv => whnf
                              refine And.intro (by with_reducible rfl) ?_
                              conv => whnf
                              refine And.intro (by with_reducible rfl) ?_
                              conv => whnf
                              refine And.intro (by with_reducible rfl) ?_
                              conv => whnf
                              refine And.intro (by with_reducible rfl) ?_
                              conv => whnf
                              refine And.intro (by with_reducible rfl) ?_
                              conv => whnf
                              refine And.intro (by with_reducible rfl) ?_
                              conv => whnf
                              refine And.intro (by with_reducible rfl) ?_
                              conv => whnf
                              refine And.intro (by with_reducible rfl) ?_
                              conv => whnf
                              refine And.intro (by with_reducible rfl) ?_
                              conv => whnf
                              refine And.intro (by with_reducible rfl) ?_
                              conv => whnf
                              refine And.intro (by with_reducible rfl) ?_
                              conv => whnf
                              refine And.intro (by with_reducible rfl) ?_
                              conv => whnf
                              refine And.intro (by with_reducible rfl) ?_
                              conv => whnf
                              refine And.intro (by with_reducible rfl) ?_
                              conv => whnf
                              refine And.intro (by with_reducible rfl) ?_
                              conv => whnf
                              refine And.intro (by with_reducible rfl) ?_
                              conv => whnf
                              refine And.intro (by with_reducible rfl) ?_
                              conv => whnf
                              refine And.intro (by with_reducible rfl) ?_
                              conv => whnf
                              refine And.intro (by with_reducible rfl) ?_
                              conv => whnf
                              refine And.intro (by with_reducible rfl) ?_
                              conv => whnf
                              refine And.intro (by with_reducible rfl) ?_
                              conv => whnf
                              refine And.intro (by with_reducible rfl) ?_
                              conv => whnf
                              refine And.intro (by with_reducible rfl) ?_
                              conv => whnf
                              refine And.intro (by with_reducible rfl) ?_
                              conv => whnf
                              refine And.intro (by with_reducible rfl) ?_
                              conv => whnf
                              refine And.intro (by with_reducible rfl) ?_
                              conv => whnf
                              refine And.intro (by with_reducible rfl) ?_
                              conv => whnf
                              refine And.intro (by with_reducible rfl) ?_
                              conv => whnf
                              refine And.intro (by with_reducible rfl) ?_
                              conv => whnf
                              refine And.intro (by with_reducible rfl) ?_
                              conv => whnf
                              refine And.intro (by with_reducible rfl) ?_
                              conv => whnf
                              refine And.intro (by with_reducible rfl) ?_
                              conv => whnf
                              refine And.intro (by with_reducible rfl) ?_
                              conv => whnf
                              refine And.intro (by with_reducible rfl) ?_
                              conv => whnf
                              refine And.intro (by with_reducible rfl) ?_
                              conv => whnf
                              refine And.intro (by with_reducible rfl) ?_
                              conv => whnf
                              refine And.intro (by with_reducible rfl) ?_
                              conv => whnf
                              refine And.intro (by with_reducible rfl) ?_
                              conv => whnf
                              refine And.intro (by with_reducible rfl) ?_
                              conv => whnf
                              refine And.intro (by with_reducible rfl) ?_
                              conv => whnf
                              refine And.intro (by with_reducible rfl) ?_
                              conv => whnf
                              refine And.intro (by with_reducible rfl) ?_
                              conv => whnf
                              refine And.intro (by with_reducible rfl) ?_
                              conv => whnf
                              refine And.intro (by with_reducible rfl) ?_
                              conv => whnf
                              refine And.intro (by with_reducible rfl) ?_
                              conv => whnf
                              refine And.intro (by with_reducible rfl) ?_
                              conv => whnf
                              refine And.intro (by with_reducible rfl) ?_
                              conv => whnf
                              refine And.intro (by with_reducible rfl) ?_
                              conv => whnf
                              refine And.intro (by with_reducible rfl) ?_
                              conv => whnf
                              refine And.intro (by with_reducible rfl) ?_
                              conv => whnf
                              refine And.intro (by with_reducible rfl) ?_
                              conv => whnf
                              refine And.intro (by with_reducible rfl) ?_
                              conv => whnf
                              refine And.intro (by with_reducible rfl) ?_
                              conv => whnf
                              refine And.intro (by with_reducible rfl) ?_
                              conv => whnf
                              refine And.intro (by with_reducible rfl) ?_
                              conv => whnf
                              refine And.intro (by with_reducible rfl) ?_
                              conv => whnf
                              refine And.intro (by with_reducible rfl) ?_
                              conv => whnf
                              refine And.intro (by with_reducible rfl) ?_
                              conv => whnf
                              refine And.intro (by with_reducible rfl) ?_
                              conv => whnf
                              refine And.intro (by with_reducible rfl) ?_
                              conv => whnf
                              refine And.intro (by with_reducible rfl) ?_
                              conv => whnf
                              refine And.intro (by with_reducible rfl) ?_
                              conv => whnf
                              refine And.intro (by with_reducible rfl) ?_
                              conv => whnf
                              refine And.intro (by with_reducible rfl) ?_
                              conv => whnf
                              refine And.intro (by with_reducible rfl) ?_
                              conv => whnf
                              refine And.intro (by with_reducible rfl) ?_
                              conv => whnf
                              refine And.intro (by with_reducible rfl) ?_
                              conv => whnf
                              refine And.intro (by with_reducible rfl) ?_
                              conv => whnf
                              refine And.intro (by with_reducible rfl) ?_
                              conv => whnf
                              refine And.intro (by with_reducible rfl) ?_
                              conv => whnf
                              refine And.intro (by with_reducible rfl) ?_
                              conv => whnf
                              refine And.intro (by with_reducible rfl) ?_
                              conv => whnf
                              refine And.intro (by with_reducible rfl) ?_
                              conv => whnf
                              refine And.intro (by with_reducible rfl) ?_
                              conv => whnf
                              refine And.intro (by with_reducible rfl) ?_
                              conv => whnf
                              refine And.intro (by with_reducible rfl) ?_
                              conv => whnf
                              refine And.intro (by with_reducible rfl) ?_
                              conv => whnf
                              refine And.intro (by with_reducible rfl) ?_
                              conv => whnf
                              refine And.intro (by with_reducible rfl) ?_
                              conv => whnf
                              refine And.intro (by with_reducible rfl) ?_
                              conv => whnf
                              refine And.intro (by with_reducible rfl) ?_
                              conv => whnf
                              refine And.intro (by with_reducible rfl) ?_
                              conv => whnf
                              refine And.intro (by with_reducible rfl) ?_
                              conv => whnf
                              refine And.intro (by with_reducible rfl) ?_
                              conv => whnf
                              refine And.intro (by with_reducible rfl) ?_
                              conv => whnf
                              refine And.intro (by with_reducible rfl) ?_
                              conv => whnf
                              refine And.intro (by with_reducible rfl) ?_
                              conv => whnf
                              refine And.intro (by with_reducible rfl) ?_
                              conv => whnf
                              refine And.intro (by with_reducible rfl) ?_
                              conv => whnf
                              refine And.intro (by with_reducible rfl) ?_
                              conv => whnf
                              refine And.intro (by with_reducible rfl) ?_
                              conv => whnf
                              refine And.intro (by with_reducible rfl) ?_
                              conv => whnf
                              refine And.intro (by with_reducible rfl) ?_
                              conv => whnf
                              refine And.intro (by with_reducible rfl) ?_
                              conv => whnf
                              refine And.intro (by with_reducible rfl) ?_
                              conv => whnf
                              refine And.intro (by with_reducible rfl) ?_
                              conv => whnf
                              refine And.intro (by with_reducible rfl) ?_
                              conv => whnf
                              refine And.intro (by with_reducible rfl) ?_
                              conv => whnf
                              refine And.intro (by with_reducible rfl) ?_
                              conv => whnf
                              refine And.intro (by with_reducible rfl) ?_
                              refine And.intro (by with_reducible rfl) ?_
                              conv => whnf
                              refine And.intro (by with_reducible rfl) ?_
                              conv => whnf
                              refine And.intro (by with_reducible rfl) ?_
                              conv => whnf
                              refine And.intro (by with_reducible rfl) ?_
                              conv => whnf
                              refine And.intro (by with_reducible rfl) ?_
                              conv => whnf
                              refine And.intro (by with_reducible rfl) ?_
                              refine And.intro (by with_reducible rfl) ?_
                              conv => whnf
                              refine And.intro (by with_reducible rfl) ?_
                              conv => whnf
                              refine And.intro (by with_reducible rfl) ?_
                              conv => whnf
                              refine And.intro (by with_reducible rfl) ?_
                              conv => whnf
                              refine And.intro (by (simp only [map_rows, wrap_i64] at *; omega)) ?_
                              conv => whnf
                              refine And.intro (by with_reducible rfl) ?_
                              conv => whnf
                              refine And.intro (by with_reducible rfl) ?_
                              conv => whnf
                              refine And.intro (by with_reducible rfl) ?_
                              conv => whnf
                              refine And.intro (by with_reducible rfl) ?_
                              conv => whnf
                              refine And.intro (by with_reducible rfl) ?_
                              conv => whnf
                              refine And.intro (by with_reducible rfl) ?_
                              conv => whnf
                              refine And.intro (by with_reducible rfl) ?_
                              conv => whnf
                              refine And.intro (by with_reducible rfl) ?_
                              conv => whnf
                              refine And.intro (by with_reducible rfl) ?_
                              conv => whnf
                              refine And.intro (by with_reducible rfl) ?_
                              conv => whnf
                              refine And.intro (by with_reducible rfl) ?_
                              conv => whnf
                              refine And.intro (by with_reducible rfl) ?_
                              conv => whnf
                              refine And.intro (by with_reducible rfl) ?_
                              conv => whnf
                              refine And.intro (by with_reducible rfl) ?_
                              conv => whnf
                              refine And.intro (by with_reducible rfl) ?_
                              conv => whnf
                              refine And.intro (by with_reducible rfl) ?_
                              conv => whnf
                              refine And.intro (by with_reducible rfl) ?_
                              conv => whnf
                              refine And.intro (by with_reducible rfl) ?_
                              conv => whnf
                              refine And.intro (by with_reducible rfl) ?_
                              conv => whnf
                              refine And.intro (by with_reducible rfl) ?_
                              conv => whnf
                              refine And.intro (by with_reducible rfl) ?_
                              exact True.intro
                    · replace hc15 := of_decide_eq_false hc15
                      conv => whnf
                      refine And.intro (fun hc19 => ?_) (fun hc19 => ?_)
                      · replace hc19 := of_decide_eq_true hc19
                        conv => whnf
                        refine br_l rfl rfl ?_
                        conv => whnf
                        refine ⟨_, aright_good _ _ _ _ _ _ _, ?_⟩
                        conv => whnf
                        refine br_l rfl rfl ?_
                        conv => whnf
                        refine And.intro (fun hc20 => ?_) (fun hc20 => ?_)
                        · replace hc20 := of_decide_eq_true hc20
                          conv => whnf
                          refine ⟨_, awake9_good, ?_⟩
                          conv => whnf
                          refine br_l rfl rfl ?_
                          conv => whnf
                          refine AV.of_eqv ?_
                          conv => whnf
                          refine And.intro (by with_reducible rfl) ?_
                          exact True.intro
                        · replace hc20 := of_decide_eq_false hc20
                          (refine absurd ?_ (by assumption); exact both_ok (by assumption) (by assumption))
                      · replace hc19 := of_decide_eq_false hc19
                        (refine absurd ?_ (by assumption); rw [hx]; simp only [mmI]; split <;> omega)
              · replace hc13 := of_decide_eq_true hc13
                conv => whnf
                refine br_r rfl rfl ?_
                conv => whnf
                refine br_r rfl rfl ?_
                conv => whnf
                refine br_l rfl rfl ?_
                conv => whnf
                refine br_l rfl rfl ?_
                conv => whnf
                refine ⟨_, awake9_good, ?_⟩
                conv => whnf
                refine AV.of_eqv ?_
                conv => whnf
                refine And.intro (by with_reducible rfl) ?_
                exact True.intro
            · replace hc12 := of_decide_eq_false (Bool.not_eq_true' _ |>.mp hc12)
              conv => whnf
              refine br_r rfl rfl ?_
              conv => whnf
              refine br_r rfl rfl ?_
              conv => whnf
              refine br_l rfl rfl ?_
              conv => whnf
              refine br_r rfl rfl ?_
              conv => whnf
              refine br_r rfl rfl ?_
              conv => whnf
              refine br_r rfl rfl ?_
              conv => whnf
              refine br_l rfl rfl ?_
              conv => whnf
              refine br_l rfl rfl ?_
              conv => whnf
              refine ⟨_, awake9_good, ?_⟩
              conv => whnf
              refine AV.of_eqv ?_
              conv => whnf
              refine And.intro (by with_reducible rfl) ?_
              exact True.intro
          · replace hc11 := of_decide_eq_false (Bool.not_eq_true' _ |>.mp hc11)
            conv => whnf
            refine br_r rfl rfl ?_
            conv => whnf
            refine br_r rfl rfl ?_
            conv => whnf
            refine br_l rfl rfl ?_
            conv => whnf
            refine br_r rfl rfl ?_
            conv => whnf
            refine br_r rfl rfl ?_
            conv => whnf
            refine br_r rfl rfl ?_
            conv => whnf
            refine br_l rfl rfl ?_
            conv => whnf
            refine br_r rfl rfl ?_
            conv => whnf
            refine br_r rfl rfl ?_
            conv => whnf
            refine br_r rfl rfl ?_
            conv => whnf
            refine br_l rfl rfl ?_
            conv => whnf
            refine br_l rfl rfl ?_
            conv => whnf
            refine ⟨_, awake9_good, ?_⟩
            conv => whnf
            refine AV.of_eqv ?_
            conv => whnf
            refine And.intro (by with_reducible rfl) ?_
            exact True.intro
  · simp only [Bool.not_eq_true', Bool.not_eq_false', Bool.and_eq_true, Bool.and_eq_false_imp, Bool.or_eq_true, Bool.or_eq_false_iff, Bool.and_true, Bool.true_and, Bool.not_true, Bool.not_false, decide_eq_true_eq, decide_eq_false_iff_not, Bool.decide_and] at hc0
    contradiction
end Go.Proofs.Ytkcdeefnkbbacaa

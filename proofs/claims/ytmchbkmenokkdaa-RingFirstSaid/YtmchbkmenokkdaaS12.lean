/- What the laws of chapter 12 call. -/
import Derived.Test.YtmchbkmenokkdaaS12f
set_option maxRecDepth 100000
set_option linter.unusedSimpArgs false
set_option linter.unusedVariables false
namespace Go.Proofs.Ytmchbkmenokkdaa
open Go.RowKit
set_option maxHeartbeats 4000000
abbrev By := List UInt8
def sr (s : By) : List AV := [.str s]
abbrev eQ (room : Int) (l : List By) : AV := .agg [.int .i64 room, .sl .sh 1 (l.map sr)]
theorem new_good (room : Int) : Good Try.prog 16 [.int .i64 room] (.tuple [eQ (if 1 ≤ room ∧ room ≤ 64 then room else 0) [], .int .i64 (if 1 ≤ room ∧ room ≤ 64 then 0 else 1)]) := by
  apply good_sh ak16 rfl rfl rfl
  conv => whnf
  refine And.intro (fun hc0 => ?_) (fun hc0 => ?_)
  · replace hc0 := of_decide_eq_false hc0
    conv => whnf
    refine br_l rfl rfl ?_
    conv => whnf
    refine br_r rfl rfl ?_
    conv => whnf
    refine And.intro (fun hc1 => ?_) (fun hc1 => ?_)
    · replace hc1 := of_decide_eq_true hc1
      conv => whnf
      refine AV.of_eqv ?_
      conv => whnf
      refine And.intro (by omega) ?_
      conv => whnf
      refine And.intro (by decide) ?_
      conv => whnf
      refine And.intro (by omega) ?_
      exact True.intro
    · replace hc1 := of_decide_eq_false hc1
      conv => whnf
      refine AV.of_eqv ?_
      conv => whnf
      refine And.intro (by omega) ?_
      conv => whnf
      refine And.intro (by decide) ?_
      conv => whnf
      refine And.intro (by omega) ?_
      exact True.intro
  · replace hc0 := of_decide_eq_true hc0
    conv => whnf
    refine br_r rfl rfl ?_
    conv => whnf
    refine br_l rfl rfl ?_
    conv => whnf
    refine br_l rfl rfl ?_
    conv => whnf
    refine AV.of_eqv ?_
    conv => whnf
    refine And.intro (by omega) ?_
    conv => whnf
    refine And.intro (by decide) ?_
    conv => whnf
    refine And.intro (by omega) ?_
    exact True.intro
theorem long_good (room : Int) (l : List By) : Good Try.prog 19 [eQ room l] (.int .i64 (l.length : Int)) := by
  apply good_at ak19 rfl rfl rfl
  conv => whnf
  refine AV.of_eqv ?_
  conv => whnf
  refine And.intro (by (simp; done)) ?_
  exact True.intro
theorem cut_good (xs : List (List AV)) (l : List By) (a b : Int) (hx : xs = l.map sr) (h : 0 ≤ a ∧ a ≤ b ∧ b ≤ l.length) (hl : l.length ≤ 1000000) : Good Try.prog 90 [.sl .sh 1 xs, .int .i64 a, .int .i64 b] (.sl .own 1 (((l.take b.toNat).drop a.toNat).map sr)) := by
  subst hx
  apply good_at ak90 rfl rfl rfl
  conv => whnf
  refine And.intro (by with_reducible rfl) ?_
  refine And.intro (by omega) ?_
  refine And.intro (by omega) ?_
  refine And.intro (by (simp only [map_rows, maxLen_eq, List.length_drop, List.length_take, List.length_nil] at *; omega)) ?_
  conv => whnf
  refine And.intro (by (simp [List.map_take, List.map_drop]; done)) ?_
  refine And.intro (by (simp only [map_rows, maxLen_eq, List.length_drop, List.length_take, List.length_nil] at *; omega)) ?_
  refine And.intro (by (simp only [map_rows, maxLen_eq, List.length_drop, List.length_take, List.length_nil] at *; omega)) ?_
  conv => whnf
  refine AV.of_eqv ?_
  conv => whnf
  refine And.intro (by (simp [List.map_take, List.map_drop]; done)) ?_
  exact True.intro
theorem put_good (room : Int) (l : List By) (s : By) (hl : l.length ≤ 100000) : Good Try.prog 17 [eQ room l, .str s] (.tuple [eQ room (if room ≤ l.length then l else l ++ [s]), .int .i64 (if room ≤ l.length then 8 else 0)]) := by
  apply good_sh ak17 rfl rfl rfl
  conv => whnf
  refine And.intro (fun hc0 => ?_) (fun hc0 => ?_)
  · replace hc0 := of_decide_eq_true hc0
    conv => whnf
    refine AV.of_eqv ?_
    conv => whnf
    refine And.intro (by with_reducible rfl) ?_
    conv => whnf
    refine And.intro (by (rw [if_pos (by simp only [map_rows] at *; omega)])) ?_
    conv => whnf
    refine And.intro (by (simp only [map_rows, maxLen_eq, List.length_drop, List.length_take, List.length_nil, List.length_cons] at *; omega)) ?_
    exact True.intro
  · replace hc0 := of_decide_eq_false hc0
    conv => whnf
    refine And.intro (by exact rfl) ?_
    conv => whnf
    refine ⟨_, (cut_good _ l 0 ((l.map sr).length : Int)) ?_ ?_ ?_, ?_⟩
    · with_reducible rfl
    · (simp only [map_rows, maxLen_eq, List.length_drop, List.length_take, List.length_nil, List.length_cons] at *; omega)
    · omega
    · conv => whnf
      refine And.intro (by (simp; done)) ?_
      refine And.intro (by (simp only [map_rows, maxLen_eq, List.length_drop, List.length_take, List.length_nil, List.length_cons] at *; omega)) ?_
      refine And.intro (by (simp only [map_rows, maxLen_eq, List.length_drop, List.length_take, List.length_nil, List.length_cons] at *; omega)) ?_
      conv => whnf
      refine AV.of_eqv ?_
      conv => whnf
      refine And.intro (by with_reducible rfl) ?_
      conv => whnf
      refine And.intro (by (rw [if_neg (by simp only [map_rows] at *; omega)]; simp [sr]; done)) ?_
      conv => whnf
      refine And.intro (by (simp only [map_rows, maxLen_eq, List.length_drop, List.length_take, List.length_nil, List.length_cons] at *; omega)) ?_
      exact True.intro
theorem head_at {l : List By} {x : By} (h : l[0]? = some x) : l.headD [] = x := by cases l <;> simp_all
theorem take_good (room : Int) (l : List By) (hl : l.length ≤ 100000) : Good Try.prog 18 [eQ room l] (.tuple [eQ room (l.drop 1), .str (l.headD []), .int .i64 (if l.length = 0 then 9 else 0)]) := by
  apply good_sh ak18 rfl rfl rfl
  conv => whnf
  refine And.intro (fun hc0 => ?_) (fun hc0 => ?_)
  · replace hc0 := of_decide_eq_true hc0
    conv => whnf
    refine AV.of_eqv ?_
    conv => whnf
    refine And.intro (by with_reducible rfl) ?_
    conv => whnf
    refine And.intro (by (have h0 : l = [] := List.eq_nil_of_length_eq_zero (by simp only [map_rows] at *; omega); subst h0; rfl)) ?_
    conv => whnf
    refine And.intro (by (have h0 : l = [] := List.eq_nil_of_length_eq_zero (by simp only [map_rows] at *; omega); subst h0; rfl)) ?_
    conv => whnf
    refine And.intro (by (simp only [map_rows, maxLen_eq] at *; omega)) ?_
    exact True.intro
  · replace hc0 := of_decide_eq_false hc0
    conv => whnf
    refine And.intro (by exact rfl) ?_
    conv => whnf
    refine ⟨_, (cut_good _ l 1 ((l.map sr).length : Int)) ?_ ?_ ?_, ?_⟩
    · with_reducible rfl
    · (simp only [map_rows, maxLen_eq] at *; omega)
    · omega
    · conv => whnf
      refine And.intro (by decide) ?_
      refine ex_row (l := l) ?_ fun x hx => ?_
      · (simp only [map_rows, maxLen_eq] at *; omega)
      · conv => whnf
        refine AV.of_eqv ?_
        conv => whnf
        refine And.intro (by with_reducible rfl) ?_
        conv => whnf
        refine And.intro (by (simp; done)) ?_
        conv => whnf
        refine And.intro (by (rw [head_at hx])) ?_
        conv => whnf
        refine And.intro (by (simp only [map_rows, maxLen_eq] at *; omega)) ?_
        exact True.intro
theorem awake12_good : Good Try.prog 15 [] (.bool true) := by
  apply good_at ak15 rfl rfl rfl
  conv => whnf
  apply ex_and
  · apply good_at ak16 rfl rfl rfl
    conv => whnf
    refine br_l rfl rfl ?_
    conv => whnf
    refine br_l rfl rfl ?_
    conv => whnf
    refine br_r rfl rfl ?_
    conv => whnf
    refine br_r rfl rfl ?_
    (conv => whnf) <;> with_reducible rfl
  · conv => whnf
    apply ex_and
    · apply good_at ak17 rfl rfl rfl
      conv => whnf
      refine br_r rfl rfl ?_
      conv => whnf
      refine And.intro (by decide) ?_
      conv => whnf
      apply ex_and
      · apply good_at ak90 rfl rfl rfl
        conv => whnf
        refine And.intro (by with_reducible rfl) ?_
        refine And.intro (by decide) ?_
        refine And.intro (by decide) ?_
        refine And.intro (by decide) ?_
        conv => whnf
        refine And.intro (by decide) ?_
        refine And.intro (by decide) ?_
        refine And.intro (by decide) ?_
        (conv => whnf) <;> with_reducible rfl
      · conv => whnf
        refine And.intro (by decide) ?_
        refine And.intro (by decide) ?_
        refine And.intro (by decide) ?_
        (conv => whnf) <;> with_reducible rfl
    · conv => whnf
      apply ex_and
      · apply good_at ak17 rfl rfl rfl
        conv => whnf
        refine br_r rfl rfl ?_
        conv => whnf
        refine And.intro (by decide) ?_
        conv => whnf
        apply ex_and
        · apply good_at ak90 rfl rfl rfl
          conv => whnf
          refine And.intro (by with_reducible rfl) ?_
          refine And.intro (by decide) ?_
          refine And.intro (by decide) ?_
          refine And.intro (by decide) ?_
          conv => whnf
          refine And.intro (by decide) ?_
          refine And.intro (by decide) ?_
          refine And.intro (by decide) ?_
          (conv => whnf) <;> with_reducible rfl
        · conv => whnf
          refine And.intro (by decide) ?_
          refine And.intro (by decide) ?_
          refine And.intro (by decide) ?_
          (conv => whnf) <;> with_reducible rfl
      · conv => whnf
        apply ex_and
        · apply good_at ak17 rfl rfl rfl
          conv => whnf
          refine br_l rfl rfl ?_
          (conv => whnf) <;> with_reducible rfl
        · conv => whnf
          apply ex_and
          · apply good_at ak88 rfl rfl rfl
            conv => whnf
            refine br_l rfl rfl ?_
            conv => whnf
            refine br_l rfl rfl ?_
            conv => whnf
            refine br_l rfl rfl ?_
            conv => whnf
            refine br_r rfl rfl ?_
            conv => whnf
            refine br_r rfl rfl ?_
            conv => whnf
            apply ex_and
            · apply good_at ak90 rfl rfl rfl
              conv => whnf
              refine And.intro (by with_reducible rfl) ?_
              refine And.intro (by decide) ?_
              refine And.intro (by decide) ?_
              refine And.intro (by decide) ?_
              conv => whnf
              refine And.intro (by decide) ?_
              refine And.intro (by decide) ?_
              refine And.intro (by decide) ?_
              (conv => whnf) <;> with_reducible rfl
            · conv => whnf
              refine And.intro (by decide) ?_
              conv => whnf
              refine And.intro (by with_reducible rfl) ?_
              refine And.intro (by decide) ?_
              refine And.intro (by decide) ?_
              refine And.intro (by decide) ?_
              conv => whnf
              refine And.intro (by decide) ?_
              refine And.intro (by decide) ?_
              refine And.intro (by decide) ?_
              (conv => whnf) <;> with_reducible rfl
          · conv => whnf
            apply ex_and
            · apply good_at ak18 rfl rfl rfl
              conv => whnf
              refine br_r rfl rfl ?_
              conv => whnf
              refine And.intro (by decide) ?_
              conv => whnf
              apply ex_and
              · apply good_at ak90 rfl rfl rfl
                conv => whnf
                refine And.intro (by with_reducible rfl) ?_
                refine And.intro (by decide) ?_
                refine And.intro (by decide) ?_
                refine And.intro (by decide) ?_
                conv => whnf
                refine And.intro (by decide) ?_
                refine And.intro (by decide) ?_
                refine And.intro (by decide) ?_
                (conv => whnf) <;> with_reducible rfl
              · conv => whnf
                refine And.intro (by decide) ?_
                with_reducible refine ⟨_, rfl, ?_⟩
                (conv => whnf) <;> with_reducible rfl
            · conv => whnf
              apply ex_and
              · apply good_at ak18 rfl rfl rfl
                conv => whnf
                refine br_l rfl rfl ?_
                (conv => whnf) <;> with_reducible rfl
              · conv => whnf
                apply ex_and
                · apply good_at ak16 rfl rfl rfl
                  conv => whnf
                  refine br_r rfl rfl ?_
                  conv => whnf
                  refine br_r rfl rfl ?_
                  conv => whnf
                  refine br_l rfl rfl ?_
                  conv => whnf
                  refine br_l rfl rfl ?_
                  (conv => whnf) <;> with_reducible rfl
                · conv => whnf
                  apply ex_and
                  · apply good_at ak88 rfl rfl rfl
                    conv => whnf
                    refine br_l rfl rfl ?_
                    conv => whnf
                    refine br_l rfl rfl ?_
                    conv => whnf
                    refine br_l rfl rfl ?_
                    conv => whnf
                    refine br_r rfl rfl ?_
                    conv => whnf
                    refine br_l rfl rfl ?_
                    (conv => whnf) <;> with_reducible rfl
                  · conv => whnf
                    refine br_l rfl rfl ?_
                    conv => whnf
                    refine br_l rfl rfl ?_
                    conv => whnf
                    refine br_l rfl rfl ?_
                    conv => whnf
                    refine br_l rfl rfl ?_
                    conv => whnf
                    refine br_r rfl rfl ?_
                    conv => whnf
                    refine br_r rfl rfl ?_
                    conv => whnf
                    refine br_l rfl rfl ?_
                    conv => whnf
                    refine br_l rfl rfl ?_
                    conv => whnf
                    refine br_l rfl rfl ?_
                    conv => whnf
                    refine br_l rfl rfl ?_
                    conv => whnf
                    refine br_l rfl rfl ?_
                    conv => whnf
                    refine br_l rfl rfl ?_
                    conv => whnf
                    refine br_l rfl rfl ?_
                    conv => whnf
                    refine br_l rfl rfl ?_
                    conv => whnf
                    refine br_l rfl rfl ?_
                    conv => whnf
                    refine And.intro (by decide) ?_
                    with_reducible refine ⟨_, rfl, ?_⟩
                    conv => whnf
                    refine br_l rfl rfl ?_
                    conv => whnf
                    refine br_l rfl rfl ?_
                    conv => whnf
                    refine br_l rfl rfl ?_
                    conv => whnf
                    refine br_l rfl rfl ?_
                    conv => whnf
                    refine br_l rfl rfl ?_
                    conv => whnf
                    refine br_l rfl rfl ?_
                    conv => whnf
                    refine br_l rfl rfl ?_
                    conv => whnf
                    refine br_l rfl rfl ?_
                    conv => whnf
                    refine br_l rfl rfl ?_
                    conv => whnf
                    refine br_l rfl rfl ?_
                    conv => whnf
                    refine br_l rfl rfl ?_
                    conv => whnf
                    refine br_l rfl rfl ?_
                    conv => whnf
                    refine And.intro (by decide) ?_
                    with_reducible refine ⟨_, rfl, ?_⟩
                    conv => whnf
                    refine br_l rfl rfl ?_
                    conv => whnf
                    refine br_l rfl rfl ?_
                    conv => whnf
                    refine br_l rfl rfl ?_
                    conv => whnf
                    refine br_l rfl rfl ?_
                    conv => whnf
                    refine br_l rfl rfl ?_
                    conv => whnf
                    refine br_l rfl rfl ?_
                    conv => whnf
                    refine br_l rfl rfl ?_
                    conv => whnf
                    refine br_l rfl rfl ?_
                    conv => whnf
                    refine br_l rfl rfl ?_
                    conv => whnf
                    refine br_l rfl rfl ?_
                    conv => whnf
                    refine br_l rfl rfl ?_
                    conv => whnf
                    refine br_l rfl rfl ?_
                    conv => whnf
                    refine br_l rfl rfl ?_
                    conv => whnf
                    refine br_l rfl rfl ?_
                    conv => whnf
                    apply ex_and
                    · apply good_at ak19 rfl rfl rfl
                      (conv => whnf) <;> with_reducible rfl
                    · conv => whnf
                      refine br_l rfl rfl ?_
                      conv => whnf
                      refine br_l rfl rfl ?_
                      conv => whnf
                      refine br_l rfl rfl ?_
                      conv => whnf
                      refine br_l rfl rfl ?_
                      conv => whnf
                      refine br_l rfl rfl ?_
                      conv => whnf
                      apply ex_and
                      · apply good_at ak89 rfl rfl rfl
                        conv => whnf
                        refine br_l rfl rfl ?_
                        conv => whnf
                        refine br_l rfl rfl ?_
                        conv => whnf
                        refine br_l rfl rfl ?_
                        conv => whnf
                        refine br_l rfl rfl ?_
                        conv => whnf
                        refine br_l rfl rfl ?_
                        conv => whnf
                        apply ex_and
                        · apply good_at ak125 rfl rfl rfl
                          conv => whnf
                          refine br_r rfl rfl ?_
                          conv => whnf
                          refine loop_run 300 ?_
                          conv => whnf
                          refine ⟨[], ?_⟩
                          refine And.intro (by decide) ?_
                          conv => whnf
                          refine br_l rfl rfl ?_
                          conv => whnf
                          refine And.intro (by decide) ?_
                          conv => whnf
                          refine And.intro (by decide) ?_
                          with_reducible refine ⟨_, rfl, ?_⟩
                          conv => whnf
                          refine And.intro (by decide) ?_
                          with_reducible refine ⟨_, rfl, ?_⟩
                          conv => whnf
                          refine br_r rfl rfl ?_
                          conv => whnf
                          refine ⟨[], ?_⟩
                          refine And.intro (by decide) ?_
                          conv => whnf
                          refine br_l rfl rfl ?_
                          conv => whnf
                          refine And.intro (by decide) ?_
                          conv => whnf
                          refine And.intro (by decide) ?_
                          with_reducible refine ⟨_, rfl, ?_⟩
                          conv => whnf
                          refine And.intro (by decide) ?_
                          with_reducible refine ⟨_, rfl, ?_⟩
                          conv => whnf
                          refine br_r rfl rfl ?_
                          conv => whnf
                          refine ⟨[], ?_⟩
                          refine And.intro (by decide) ?_
                          conv => whnf
                          refine br_r rfl rfl ?_
                          (conv => whnf) <;> with_reducible rfl
                        · conv => whnf
                          refine br_l rfl rfl ?_
                          (conv => whnf) <;> with_reducible rfl
                      · conv => whnf
                        refine br_l rfl rfl ?_
                        conv => whnf
                        refine br_l rfl rfl ?_
                        conv => whnf
                        refine br_l rfl rfl ?_
                        conv => whnf
                        refine br_l rfl rfl ?_
                        conv => whnf
                        apply ex_and
                        · apply good_at ak89 rfl rfl rfl
                          conv => whnf
                          refine br_l rfl rfl ?_
                          conv => whnf
                          refine br_l rfl rfl ?_
                          conv => whnf
                          refine br_l rfl rfl ?_
                          conv => whnf
                          refine br_l rfl rfl ?_
                          conv => whnf
                          refine br_l rfl rfl ?_
                          conv => whnf
                          apply ex_and
                          · apply good_at ak125 rfl rfl rfl
                            conv => whnf
                            refine br_l rfl rfl ?_
                            (conv => whnf) <;> with_reducible rfl
                          · conv => whnf
                            refine br_l rfl rfl ?_
                            (conv => whnf) <;> with_reducible rfl
                        · conv => whnf
                          refine br_l rfl rfl ?_
                          conv => whnf
                          refine br_l rfl rfl ?_
                          conv => whnf
                          refine AV.of_eqv ?_
                          conv => whnf
                          refine And.intro (by decide) ?_
                          exact True.intro
end Go.Proofs.Ytmchbkmenokkdaa

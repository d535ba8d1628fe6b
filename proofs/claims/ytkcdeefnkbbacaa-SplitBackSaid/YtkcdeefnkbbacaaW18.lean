/- Split: cut into pieces and gathered again. -/
import Derived.Test.YtkcdeefnkbbacaaW18c
import Derived.Test.YtkcdeefnkbbacaaGrow
import Derived.Test.YtkcdeefnkbbacaaW07b
set_option maxRecDepth 100000
set_option linter.unusedSimpArgs false
set_option linter.unusedVariables false
namespace Go.Proofs.Ytkcdeefnkbbacaa
open Go.RowKit
set_option maxHeartbeats 4000000
theorem most_good : Good Try.prog 115 [] (.int .i64 6) := by
  apply good_at ak115 rfl rfl rfl
  conv => whnf
  refine AV.of_eqv ?_
  conv => whnf
  refine And.intro (by with_reducible rfl) ?_
  exact True.intro
theorem clone_good (l : List It) (hl : l.length ≤ 1000000) : Good Try.prog 133 [.sl .sh 4 (l.map it)] (.sl .own 4 (l.map it)) := by
  apply good_at ak133 rfl rfl rfl
  conv => whnf
  refine And.intro (fun hc0 => ?_) (fun hc0 => ?_)
  · replace hc0 := of_decide_eq_true hc0
    refine And.intro ?_ ?_
    · conv => whnf
      refine br_l rfl rfl ?_
      conv => whnf
      refine AV.of_eqv ?_
      conv => whnf
      refine And.intro (by (exact (List.eq_nil_of_length_eq_zero (by assumption)).symm)) ?_
      exact True.intro
    · conv => whnf
      refine br_r rfl rfl ?_
      conv => whnf
      refine And.intro (by (simp; done)) ?_
      refine And.intro (by (simp only [map_rows, List.length_map, maxLen_eq, List.length_nil] at *; omega)) ?_
      refine And.intro (by (simp only [map_rows, List.length_map, maxLen_eq, List.length_nil] at *; omega)) ?_
      conv => whnf
      refine AV.of_eqv ?_
      conv => whnf
      refine And.intro (by (simp; done)) ?_
      exact True.intro
  · replace hc0 := of_decide_eq_false hc0
    conv => whnf
    refine br_r rfl rfl ?_
    conv => whnf
    refine And.intro (by (simp; done)) ?_
    refine And.intro (by (simp only [map_rows, List.length_map, maxLen_eq, List.length_nil] at *; omega)) ?_
    refine And.intro (by (simp only [map_rows, List.length_map, maxLen_eq, List.length_nil] at *; omega)) ?_
    conv => whnf
    refine AV.of_eqv ?_
    conv => whnf
    refine And.intro (by (simp; done)) ?_
    exact True.intro
theorem grow_i (n : Int) (h0 : 0 ≤ n) (hn : n ≤ 100000) : Good Try.prog 134 [.sl .nil 4 [], .int .i64 n] (.sl .own 4 []) := by
  obtain ⟨n, rfl⟩ := Int.eq_ofNat_of_zero_le h0
  exact grow_good n (by omega)
theorem concat_good (l m : List It) (hl : l.length ≤ 1000) (hm : m.length ≤ 1000) : Good Try.prog 117 [.sl .sh 1 [[.sl .sh 4 (l.map it)], [.sl .sh 4 (m.map it)]]] (.sl .own 4 ((l ++ m).map it)) := by
  apply good_at ak117 rfl rfl rfl
  conv => whnf
  refine loop_run 300 ?_
  conv => whnf
  refine ⟨[], ?_⟩
  refine And.intro (by exact rfl) ?_
  conv => whnf
  refine br_l rfl rfl ?_
  conv => whnf
  refine And.intro (by decide) ?_
  with_reducible refine ⟨_, rfl, ?_⟩
  conv => whnf
  refine And.intro (fun hc1 => ?_) (fun hc1 => ?_)
  · replace hc1 := of_decide_eq_true hc1
    (exfalso; simp only [map_rows, wrap_i64] at *; omega)
  · replace hc1 := of_decide_eq_false hc1
    conv => whnf
    refine ⟨[], ?_⟩
    refine And.intro (by exact rfl) ?_
    conv => whnf
    refine br_l rfl rfl ?_
    conv => whnf
    refine And.intro (by decide) ?_
    with_reducible refine ⟨_, rfl, ?_⟩
    conv => whnf
    refine And.intro (fun hc3 => ?_) (fun hc3 => ?_)
    · replace hc3 := of_decide_eq_true hc3
      (exfalso; simp only [map_rows, wrap_i64] at *; omega)
    · replace hc3 := of_decide_eq_false hc3
      conv => whnf
      refine ⟨[], ?_⟩
      refine And.intro (by exact rfl) ?_
      conv => whnf
      refine br_r rfl rfl ?_
      conv => whnf
      refine ⟨_, grow_i _ ?_ ?_, ?_⟩
      · omega
      · (simp only [map_rows, List.length_map, maxLen_eq, List.length_nil, List.length_append, wrap_i64] at *; omega)
      · conv => whnf
        refine loop_run 300 ?_
        conv => whnf
        refine ⟨[], ?_⟩
        refine And.intro (by exact rfl) ?_
        conv => whnf
        refine br_l rfl rfl ?_
        conv => whnf
        refine And.intro (by decide) ?_
        with_reducible refine ⟨_, rfl, ?_⟩
        conv => whnf
        refine And.intro (by (simp; done)) ?_
        refine And.intro (by (simp only [map_rows, List.length_map, maxLen_eq, List.length_nil, List.length_append, wrap_i64] at *; omega)) ?_
        refine And.intro (by (simp only [map_rows, List.length_map, maxLen_eq, List.length_nil, List.length_append, wrap_i64] at *; omega)) ?_
        conv => whnf
        refine ⟨[], ?_⟩
        refine And.intro (by exact rfl) ?_
        conv => whnf
        refine br_l rfl rfl ?_
        conv => whnf
        refine And.intro (by decide) ?_
        with_reducible refine ⟨_, rfl, ?_⟩
        conv => whnf
        refine And.intro (by (simp; done)) ?_
        refine And.intro (by (simp only [map_rows, List.length_map, maxLen_eq, List.length_nil, List.length_append, wrap_i64] at *; omega)) ?_
        refine And.intro (by (simp only [map_rows, List.length_map, maxLen_eq, List.length_nil, List.length_append, wrap_i64] at *; omega)) ?_
        conv => whnf
        refine ⟨[], ?_⟩
        refine And.intro (by exact rfl) ?_
        conv => whnf
        refine br_r rfl rfl ?_
        conv => whnf
        refine AV.of_eqv ?_
        conv => whnf
        refine And.intro (by (simp; done)) ?_
        exact True.intro
def pcs : Nat → List It → List (List It)
  | 0, l => [l]
  | n + 1, l => if 6 < l.length then l.take 6 :: pcs n (l.drop 6) else [l]
def sit (l : List It) : List AV := [.sl .sh 4 (l.map it)]
theorem clone_6 (r : List It) (hl : r.length ≤ 1000000) : Good Try.prog 133 [.sl .sh 4 (List.drop (Int.toNat 0) (List.take (Int.toNat 6) (r.map it)))] (.sl .own 4 ((r.take 6).map it)) := by
  have e : List.drop (Int.toNat 0) (List.take (Int.toNat 6) (r.map it)) = (r.take 6).map it := by rw [List.map_take]; rfl
  rw [e]
  exact clone_good _ (by rw [List.length_take]; omega)
theorem pcs_small {n : Nat} {l : List It} (h : ¬ 6 < l.length) : pcs n l = [l] := by
  cases n with
  | zero => rfl
  | succ n => exact if_neg h
theorem pcs_fuel : ∀ (n m : Nat) (l : List It), l.length ≤ n → l.length ≤ m → pcs n l = pcs m l
  | 0, m, l, h, _ => by rw [pcs_small (by omega), pcs_small (by omega)]
  | n + 1, 0, l, _, h => by rw [pcs_small (by omega), pcs_small (by omega)]
  | n + 1, m + 1, l, h1, h2 => by
    by_cases h : 6 < l.length
    · unfold pcs
      rw [if_pos h, if_pos h, pcs_fuel n m (l.drop 6) (by rw [List.length_drop]; omega) (by rw [List.length_drop]; omega)]
    · rw [pcs_small h, pcs_small h]
theorem pcs_at {r l : List It} {out : List (List It)} (h : r.length + out.length ≤ l.length ∧ out ++ pcs r.length r = pcs l.length l) (hr : 6 < r.length) : (r.drop 6).length + (out ++ [r.take 6]).length ≤ l.length ∧ (out ++ [r.take 6]) ++ pcs (r.drop 6).length (r.drop 6) = pcs l.length l := by
  refine ⟨by simp only [List.length_drop, List.length_append, List.length_cons, List.length_nil]; omega, ?_⟩
  obtain ⟨k, hk⟩ : ∃ k, r.length = k + 1 := ⟨r.length - 1, by omega⟩
  have e : pcs r.length r = r.take 6 :: pcs (r.drop 6).length (r.drop 6) := by
    have e1 : pcs r.length r = pcs (k + 1) r := by rw [hk]
    have e2 : pcs (k + 1) r = r.take 6 :: pcs k (r.drop 6) := if_pos hr
    rw [e1, e2, pcs_fuel k (r.drop 6).length (r.drop 6) (by rw [List.length_drop]; omega) (Nat.le_refl _)]
  rw [← h.2, e, List.append_assoc]; rfl
theorem pcs_end {r l : List It} {out : List (List It)} (h : out ++ pcs r.length r = pcs l.length l) (hr : ¬ 6 < r.length) : out.map sit ++ [[.sl .sh 4 (r.map it)]] = (pcs l.length l).map sit := by
  have e : pcs r.length r = [r] := by
    cases hn : r.length with
    | zero => rfl
    | succ n => exact if_neg hr
  rw [← h, e, List.map_append]; rfl
theorem pieces_good (l : List It) (hl : l.length ≤ 1000) : Good Try.prog 116 [.sl .sh 4 (l.map it), .int .i64 6] (.sl .own 1 ((pcs l.length l).map sit)) := by
  apply good_at ak116 rfl rfl rfl
  conv => whnf
  refine loop_at (α := List It × List (List It)) [] (fun ⟨r, out⟩ => [(0, .sl .sh 4 (r.map it)), (5, .sl .own 1 (out.map sit))]) (fun ⟨r, out⟩ => []) (fun ⟨r, out⟩ => r.length + out.length ≤ l.length ∧ out ++ pcs r.length r = pcs l.length l) (fun ⟨r, out⟩ => r.length) ((l, [])) (st_of ?_) ?_ (by rintro ⟨r, out⟩ _; rfl) ?_
  · conv => whnf
    refine And.intro (by with_reducible rfl) ?_
    conv => whnf
    refine And.intro (by with_reducible rfl) ?_
    conv => whnf
    refine And.intro (by with_reducible rfl) ?_
    conv => whnf
    refine And.intro (by decide) ?_
    exact True.intro
  · dsimp only
    (simp; done)
  · rintro ⟨r, out⟩ nextl0 hIl0 ihl0
    try dsimp only at hIl0
    conv => whnf
    refine And.intro (fun hc0 => ?_) (fun hc0 => ?_)
    · replace hc0 := of_decide_eq_true hc0
      conv => whnf
      refine And.intro (by decide) ?_
      refine And.intro (by decide) ?_
      refine And.intro (by omega) ?_
      conv => whnf
      refine ⟨_, clone_6 _ ?_, ?_⟩
      · omega
      · conv => whnf
        refine And.intro (by (simp; done)) ?_
        refine And.intro (by (simp only [map_rows, List.length_map, maxLen_eq, List.length_nil, List.length_cons, List.length_append, wrap_i64] at *; omega)) ?_
        refine And.intro (by (simp only [map_rows, List.length_map, maxLen_eq, List.length_nil, List.length_cons, List.length_append, wrap_i64] at *; omega)) ?_
        conv => whnf
        refine And.intro (by decide) ?_
        refine And.intro (by omega) ?_
        refine And.intro (by omega) ?_
        conv => whnf
        refine ihl0 ((r.drop 6, out ++ [r.take 6])) _ ?_ ?_ (st_of ?_)
        · dsimp only
          (exact pcs_at hIl0 (by simp only [map_rows] at *; omega))
        · dsimp only
          (simp only [map_rows, List.length_drop] at *; omega)
        · conv => whnf
          refine And.intro (by (rw [Int.toNat_natCast, List.take_length, List.map_drop]; rfl)) ?_
          conv => whnf
          refine And.intro (by with_reducible rfl) ?_
          conv => whnf
          refine And.intro (by with_reducible rfl) ?_
          conv => whnf
          refine And.intro (by (rw [List.map_append]; rfl)) ?_
          exact True.intro
    · replace hc0 := of_decide_eq_false hc0
      conv => whnf
      refine ⟨_, clone_good _ ?_, ?_⟩
      · omega
      · conv => whnf
        refine And.intro (by (simp; done)) ?_
        refine And.intro (by (simp only [map_rows, List.length_map, maxLen_eq, List.length_nil, List.length_cons, List.length_append, wrap_i64] at *; omega)) ?_
        refine And.intro (by (simp only [map_rows, List.length_map, maxLen_eq, List.length_nil, List.length_cons, List.length_append, wrap_i64] at *; omega)) ?_
        conv => whnf
        refine AV.of_eqv ?_
        conv => whnf
        refine And.intro (by (exact pcs_end hIl0.2 (by simp only [map_rows] at *; omega))) ?_
        exact True.intro
end Go.Proofs.Ytkcdeefnkbbacaa

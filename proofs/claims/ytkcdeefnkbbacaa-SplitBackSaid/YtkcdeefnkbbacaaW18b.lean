/- The law SplitBack. -/
import Derived.Test.YtkcdeefnkbbacaaW18
import Derived.Test.YtkcdeefnkbbacaaW08
set_option maxRecDepth 100000
set_option linter.unusedSimpArgs false
set_option linter.unusedVariables false
namespace Go.Proofs.Ytkcdeefnkbbacaa
open Go.RowKit
set_option maxHeartbeats 4000000
def cutR (l : List It) : List (List It) × Int := if 48 < l.length then ([], 4) else if (all l).2 = 0 then (pcs l.length l, 0) else ([], (all l).2)
theorem cutR_long {l : List It} (h : 48 < l.length) : cutR l = ([], 4) := by unfold cutR; rw [if_pos h]
theorem cutR_bad {l : List It} (h : ¬ 48 < l.length) (h2 : ¬ (all l).2 = 0) : cutR l = ([], (all l).2) := by unfold cutR; rw [if_neg h, if_neg h2]
theorem cutR_ok {l : List It} (h : ¬ 48 < l.length) (h2 : (all l).2 = 0) : cutR l = (pcs l.length l, 0) := by unfold cutR; rw [if_neg h, if_pos h2]
theorem cut18_good (l : List It) (hl : l.length ≤ 100) (hd : ∀ x ∈ l, u32b x.2.2.1) : Good Try.prog 55 [.sl .sh 4 (l.map it)] (.tuple [.sl .own 1 ((cutR l).1.map sit), .int .i64 (cutR l).2]) := by
  by_cases h1 : 48 < l.length
  · rw [cutR_long h1]
    apply good_at ak55 rfl rfl rfl
    conv => whnf
    refine And.intro (fun hc0 => ?_) (fun hc0 => ?_)
    · replace hc0 := of_decide_eq_true hc0
      conv => whnf
      refine AV.of_eqv ?_
      conv => whnf
      refine And.intro (by decide) ?_
      conv => whnf
      refine And.intro (by with_reducible rfl) ?_
      exact True.intro
    · replace hc0 := of_decide_eq_false hc0
      (exfalso; simp only [map_rows] at *; omega)
  · by_cases h2 : (all l).2 = 0
    · rw [cutR_ok h1 h2]
      apply good_at ak55 rfl rfl rfl
      conv => whnf
      refine And.intro (fun hc0 => ?_) (fun hc0 => ?_)
      · replace hc0 := of_decide_eq_true hc0
        (exfalso; simp only [map_rows] at *; omega)
      · replace hc0 := of_decide_eq_false hc0
        conv => whnf
        refine ⟨_, (all_good l) ?_ ?_, ?_⟩
        · omega
        · assumption
        · conv => whnf
          refine And.intro (fun hc1 => ?_) (fun hc1 => ?_)
          · replace hc1 := of_decide_eq_false (Bool.not_eq_true' _ |>.mp hc1)
            contradiction
          · replace hc1 := of_decide_eq_true (Bool.not_eq_false' _ |>.mp hc1)
            conv => whnf
            refine ⟨_, most_good, ?_⟩
            conv => whnf
            refine ⟨_, pieces_good _ ?_, ?_⟩
            · omega
            · conv => whnf
              refine AV.of_eqv ?_
              conv => whnf
              refine And.intro (by with_reducible rfl) ?_
              conv => whnf
              refine And.intro (by with_reducible rfl) ?_
              exact True.intro
    · rw [cutR_bad h1 h2]
      apply good_at ak55 rfl rfl rfl
      conv => whnf
      refine And.intro (fun hc0 => ?_) (fun hc0 => ?_)
      · replace hc0 := of_decide_eq_true hc0
        (exfalso; simp only [map_rows] at *; omega)
      · replace hc0 := of_decide_eq_false hc0
        conv => whnf
        refine ⟨_, (all_good l) ?_ ?_, ?_⟩
        · omega
        · assumption
        · conv => whnf
          refine And.intro (fun hc1 => ?_) (fun hc1 => ?_)
          · replace hc1 := of_decide_eq_false (Bool.not_eq_true' _ |>.mp hc1)
            conv => whnf
            refine AV.of_eqv ?_
            conv => whnf
            refine And.intro (by (simp; done)) ?_
            conv => whnf
            refine And.intro (by with_reducible rfl) ?_
            exact True.intro
          · replace hc1 := of_decide_eq_true (Bool.not_eq_false' _ |>.mp hc1)
            contradiction
theorem gather_long (g : List It) (f a b c d s : Int) (m : Bool) (l : List It) (hg : g.length ≤ 1000) (hl : l.length ≤ 1000) (h : 48 < g.length + l.length) : Good Try.prog 56 [.sl .sh 4 (g.map it), eT f a b c d s m l] (.tuple [.sl .own 4 [], .sl .own 4 [], .bool false, .int .i64 4]) := by
  apply good_at ak56 rfl rfl rfl
  conv => whnf
  refine And.intro (fun hc0 => ?_) (fun hc0 => ?_)
  · replace hc0 := of_decide_eq_false hc0
    conv => whnf
    refine br_l rfl rfl ?_
    conv => whnf
    refine br_l rfl rfl ?_
    conv => whnf
    refine br_l rfl rfl ?_
    conv => whnf
    refine br_l rfl rfl ?_
    conv => whnf
    refine br_l rfl rfl ?_
    conv => whnf
    refine br_l rfl rfl ?_
    conv => whnf
    refine br_r rfl rfl ?_
    conv => whnf
    refine And.intro (fun hc1 => ?_) (fun hc1 => ?_)
    · replace hc1 := of_decide_eq_true hc1
      conv => whnf
      refine AV.of_eqv ?_
      conv => whnf
      refine And.intro (by with_reducible rfl) ?_
      conv => whnf
      refine And.intro (by with_reducible rfl) ?_
      conv => whnf
      refine And.intro (by with_reducible rfl) ?_
      conv => whnf
      refine And.intro (by with_reducible rfl) ?_
      exact True.intro
    · replace hc1 := of_decide_eq_false hc1
      (exfalso; simp only [map_rows, wrap_i64] at *; omega)
  · replace hc0 := of_decide_eq_true hc0
    conv => whnf
    refine br_r rfl rfl ?_
    conv => whnf
    refine br_r rfl rfl ?_
    conv => whnf
    refine br_r rfl rfl ?_
    conv => whnf
    refine br_r rfl rfl ?_
    conv => whnf
    refine br_r rfl rfl ?_
    conv => whnf
    refine br_r rfl rfl ?_
    conv => whnf
    refine br_l rfl rfl ?_
    conv => whnf
    refine br_l rfl rfl ?_
    conv => whnf
    refine AV.of_eqv ?_
    conv => whnf
    refine And.intro (by with_reducible rfl) ?_
    conv => whnf
    refine And.intro (by with_reducible rfl) ?_
    conv => whnf
    refine And.intro (by with_reducible rfl) ?_
    conv => whnf
    refine And.intro (by with_reducible rfl) ?_
    exact True.intro
theorem gather_more (g : List It) (f a b c d s : Int) (l : List It) (h : g.length + l.length ≤ 48) : Good Try.prog 56 [.sl .sh 4 (g.map it), eT f a b c d s true l] (.tuple [.sl .own 4 ((g ++ l).map it), .sl .own 4 [], .bool false, .int .i64 0]) := by
  apply good_at ak56 rfl rfl rfl
  conv => whnf
  refine And.intro (fun hc0 => ?_) (fun hc0 => ?_)
  · replace hc0 := of_decide_eq_false hc0
    conv => whnf
    refine br_l rfl rfl ?_
    conv => whnf
    refine br_l rfl rfl ?_
    conv => whnf
    refine br_l rfl rfl ?_
    conv => whnf
    refine br_l rfl rfl ?_
    conv => whnf
    refine br_l rfl rfl ?_
    conv => whnf
    refine br_l rfl rfl ?_
    conv => whnf
    refine br_r rfl rfl ?_
    conv => whnf
    refine And.intro (fun hc1 => ?_) (fun hc1 => ?_)
    · replace hc1 := of_decide_eq_true hc1
      (exfalso; simp only [map_rows, wrap_i64] at *; omega)
    · replace hc1 := of_decide_eq_false hc1
      conv => whnf
      refine ⟨_, concat_good _ _ ?_ ?_, ?_⟩
      · omega
      · omega
      · conv => whnf
        refine br_l rfl rfl ?_
        conv => whnf
        refine AV.of_eqv ?_
        conv => whnf
        refine And.intro (by with_reducible rfl) ?_
        conv => whnf
        refine And.intro (by with_reducible rfl) ?_
        conv => whnf
        refine And.intro (by with_reducible rfl) ?_
        conv => whnf
        refine And.intro (by with_reducible rfl) ?_
        exact True.intro
  · replace hc0 := of_decide_eq_true hc0
    (exfalso; simp only [map_rows, wrap_i64] at *; omega)
theorem gather_last (g : List It) (f a b c d s : Int) (l : List It) (h : g.length + l.length ≤ 48) : Good Try.prog 56 [.sl .sh 4 (g.map it), eT f a b c d s false l] (.tuple [.sl .own 4 [], .sl .own 4 ((g ++ l).map it), .bool true, .int .i64 0]) := by
  apply good_at ak56 rfl rfl rfl
  conv => whnf
  refine And.intro (fun hc0 => ?_) (fun hc0 => ?_)
  · replace hc0 := of_decide_eq_false hc0
    conv => whnf
    refine br_l rfl rfl ?_
    conv => whnf
    refine br_l rfl rfl ?_
    conv => whnf
    refine br_l rfl rfl ?_
    conv => whnf
    refine br_l rfl rfl ?_
    conv => whnf
    refine br_l rfl rfl ?_
    conv => whnf
    refine br_l rfl rfl ?_
    conv => whnf
    refine br_r rfl rfl ?_
    conv => whnf
    refine And.intro (fun hc1 => ?_) (fun hc1 => ?_)
    · replace hc1 := of_decide_eq_true hc1
      (exfalso; simp only [map_rows, wrap_i64] at *; omega)
    · replace hc1 := of_decide_eq_false hc1
      conv => whnf
      refine ⟨_, concat_good _ _ ?_ ?_, ?_⟩
      · omega
      · omega
      · conv => whnf
        refine br_r rfl rfl ?_
        conv => whnf
        refine AV.of_eqv ?_
        conv => whnf
        refine And.intro (by with_reducible rfl) ?_
        conv => whnf
        refine And.intro (by with_reducible rfl) ?_
        conv => whnf
        refine And.intro (by with_reducible rfl) ?_
        conv => whnf
        refine And.intro (by with_reducible rfl) ?_
        exact True.intro
  · replace hc0 := of_decide_eq_true hc0
    (exfalso; simp only [map_rows, wrap_i64] at *; omega)
theorem same18_good (l m : List It) (hl : l.length ≤ 1000000) (hm : m.length ≤ 1000000) : Good Try.prog 57 [.sl .sh 4 (l.map it), .sl .sh 4 (m.map it)] (.bool (decide (l = m))) := by
  apply good_at ak57 rfl rfl rfl
  conv => whnf
  refine And.intro (fun hc0 => ?_) (fun hc0 => ?_)
  · replace hc0 := of_decide_eq_false (Bool.not_eq_true' _ |>.mp hc0)
    conv => whnf
    refine AV.of_eqv ?_
    conv => whnf
    refine And.intro (by (exact (decide_eq_false (by rintro rfl; omega)).symm)) ?_
    exact True.intro
  · replace hc0 := of_decide_eq_true (Bool.not_eq_false' _ |>.mp hc0)
    conv => whnf
    refine loop_at (α := Nat) [] (fun i => [(13, .int .i64 (i : Int))]) (fun i => []) (fun i => i ≤ l.length ∧ l.take i = m.take i) (fun i => l.length - i) (0) (st_of ?_) ?_ (by rintro i _; rfl) ?_
    · conv => whnf
      refine And.intro (by with_reducible rfl) ?_
      conv => whnf
      refine And.intro (by with_reducible rfl) ?_
      conv => whnf
      refine And.intro (by with_reducible rfl) ?_
      conv => whnf
      refine And.intro (by with_reducible rfl) ?_
      conv => whnf
      refine And.intro (by with_reducible rfl) ?_
      conv => whnf
      refine And.intro (by with_reducible rfl) ?_
      conv => whnf
      refine And.intro (by with_reducible rfl) ?_
      conv => whnf
      refine And.intro (by with_reducible rfl) ?_
      conv => whnf
      refine And.intro (by with_reducible rfl) ?_
      conv => whnf
      refine And.intro (by decide) ?_
      exact True.intro
    · (exact ⟨by omega, rfl⟩)
    · rintro i nextl0 hIl0 ihl0
      try dsimp only at hIl0
      conv => whnf
      refine And.intro (fun hc1 => ?_) (fun hc1 => ?_)
      · replace hc1 := of_decide_eq_true hc1
        conv => whnf
        refine And.intro (by exact rfl) ?_
        conv => whnf
        refine And.intro (by omega) ?_
        refine ex_row (l := l) ?_ fun x hx => ?_
        · (simp only [map_rows, maxLen_eq] at *; omega)
        · simp only [toNat_ofNat] at hx
          conv => whnf
          refine And.intro (by omega) ?_
          refine ex_row (l := m) ?_ fun y hy => ?_
          · (simp only [map_rows, maxLen_eq] at *; omega)
          · simp only [toNat_ofNat] at hy
            conv => whnf
            refine And.intro (fun hc4 => ?_) (fun hc4 => ?_)
            · simp only [Bool.not_eq_true', Bool.not_eq_false', Bool.and_eq_true, Bool.and_eq_false_imp, Bool.or_eq_true, Bool.or_eq_false_iff, Bool.and_true, Bool.true_and, Bool.not_true, Bool.not_false, decide_eq_true_eq, decide_eq_false_iff_not, Bool.decide_and] at hc4
              conv => whnf
              refine AV.of_eqv ?_
              conv => whnf
              refine And.intro (by (exact (decide_eq_false (ne_at hx hy (by rintro rfl; simp_all))).symm)) ?_
              exact True.intro
            · simp only [Bool.not_eq_true', Bool.not_eq_false', Bool.and_eq_true, Bool.and_eq_false_imp, Bool.or_eq_true, Bool.or_eq_false_iff, Bool.and_true, Bool.true_and, Bool.not_true, Bool.not_false, decide_eq_true_eq, decide_eq_false_iff_not, Bool.decide_and] at hc4
              conv => whnf
              refine ihl0 (i + 1) _ ?_ ?_ (st_of ?_)
              · (have := lt_at hx; exact ⟨by omega, eq_next hIl0.2 hx hy (by simp_all [Prod.ext_iff])⟩)
              · (simp only [map_rows, maxLen_eq] at *; omega)
              · conv => whnf
                refine And.intro (by with_reducible rfl) ?_
                conv => whnf
                refine And.intro (by with_reducible rfl) ?_
                conv => whnf
                refine And.intro (by with_reducible rfl) ?_
                conv => whnf
                refine And.intro (by with_reducible rfl) ?_
                conv => whnf
                refine And.intro (by with_reducible rfl) ?_
                conv => whnf
                refine And.intro (by with_reducible rfl) ?_
                conv => whnf
                refine And.intro (by with_reducible rfl) ?_
                conv => whnf
                refine And.intro (by with_reducible rfl) ?_
                conv => whnf
                refine And.intro (by with_reducible rfl) ?_
                conv => whnf
                refine And.intro (by (simp only [wrap_i64, wrap_u64, wrap_u32, wrap_u16, wrap_u8, maxLen_eq, mmI] at *; omega)) ?_
                exact True.intro
      · replace hc1 := of_decide_eq_false hc1
        conv => whnf
        refine AV.of_eqv ?_
        conv => whnf
        refine And.intro (by (exact (decide_eq_true (eq_end hIl0.2 (by simp only [map_rows] at *; omega) (by simp only [map_rows] at *; omega))).symm)) ?_
        exact True.intro
def manyI (n : Nat) : List It := (List.range n).map fun (i : Nat) => (((i : Int) % 16, 0, 4294967295, -1) : It)
theorem manyI_succ (n : Nat) : manyI (n + 1) = manyI n ++ [((n : Int) % 16, 0, 4294967295, -1)] := by
  unfold manyI; rw [List.range_succ, List.map_append]; rfl
theorem manyI_len (n : Nat) : (manyI n).length = n := by unfold manyI; simp
theorem many18_good (k : Int) (n : Nat) (hk : k = n) (hn : n ≤ 1000) : Good Try.prog 114 [.int .i64 k] (.sl .own 4 ((manyI n).map it)) := by
  subst hk
  apply good_at ak114 rfl rfl rfl
  conv => whnf
  refine loop_at (α := Nat) [] (fun i => [(6, .int .i64 (i : Int)), (3, .sl .own 4 ((manyI i).map it))]) (fun i => []) (fun i => i ≤ n) (fun i => n - i) (0) (st_of ?_) ?_ (by rintro i _; rfl) ?_
  · conv => whnf
    refine And.intro (by with_reducible rfl) ?_
    conv => whnf
    refine And.intro (by with_reducible rfl) ?_
    conv => whnf
    refine And.intro (by decide) ?_
    conv => whnf
    refine And.intro (by with_reducible rfl) ?_
    conv => whnf
    refine And.intro (by decide) ?_
    exact True.intro
  · omega
  · rintro i nextl0 hIl0 ihl0
    try dsimp only at hIl0
    conv => whnf
    refine And.intro (fun hc0 => ?_) (fun hc0 => ?_)
    · replace hc0 := of_decide_eq_true hc0
      conv => whnf
      refine And.intro (by decide) ?_
      conv => whnf
      refine ⟨_, far_good _ _, ?_⟩
      conv => whnf
      refine And.intro (by (simp; done)) ?_
      refine And.intro (by (simp only [map_rows, maxLen_eq, manyI_len, List.length_cons, List.length_nil] at *; omega)) ?_
      refine And.intro (by (simp only [map_rows, maxLen_eq, manyI_len, List.length_cons, List.length_nil] at *; omega)) ?_
      conv => whnf
      refine ihl0 (i + 1) _ ?_ ?_ (st_of ?_)
      · omega
      · omega
      · conv => whnf
        refine And.intro (by with_reducible rfl) ?_
        conv => whnf
        refine And.intro (by with_reducible rfl) ?_
        conv => whnf
        refine And.intro (by (rw [manyI_succ, List.map_append, Int.tmod_eq_emod_of_nonneg (by omega)]; rfl)) ?_
        conv => whnf
        refine And.intro (by with_reducible rfl) ?_
        conv => whnf
        refine And.intro (by (simp only [wrap_i64, wrap_u64, wrap_u32, wrap_u16, wrap_u8, maxLen_eq, mmI] at *; omega)) ?_
        exact True.intro
    · replace hc0 := of_decide_eq_false hc0
      conv => whnf
      refine AV.of_eqv ?_
      conv => whnf
      refine And.intro (by (rw [show i = n by omega])) ?_
      exact True.intro
end Go.Proofs.Ytkcdeefnkbbacaa

/- The law TimerOnce: its contract. -/
import Derived.Test.YtmchbkmenokkdaaS13
set_option maxRecDepth 100000
namespace Go.Proofs.Ytmchbkmenokkdaa
open Go.RowKit
set_option maxHeartbeats 4000000
def cK (k : Int) : Int := IntKind.i64.wrap ((IntKind.u64.wrap k).tmod 4)
def cN (n : Int) : Int := IntKind.i64.wrap ((IntKind.u64.wrap n).tmod 16)
def cL (l : Int) : Int := IntKind.i64.wrap (1 + IntKind.i64.wrap ((IntKind.u64.wrap l).tmod 50))
def cM (m : Int) : Int := IntKind.i64.wrap ((IntKind.u64.wrap m).tmod 20)
theorem tm (n : Int) (k : Int) (hk : 0 < k) (hk2 : k < 1000) : 0 ≤ IntKind.i64.wrap ((IntKind.u64.wrap n).tmod k) ∧ IntKind.i64.wrap ((IntKind.u64.wrap n).tmod k) < k := by
  have h0 : 0 ≤ IntKind.u64.wrap n := by rw [wrap_u64]; omega
  rw [Int.tmod_eq_emod_of_nonneg h0]
  have h1 := Int.emod_nonneg (IntKind.u64.wrap n) (show k ≠ 0 by omega)
  have h2 := Int.emod_lt_of_pos (IntKind.u64.wrap n) hk
  rw [wrap_i64]
  omega
theorem cK_b (k : Int) : 0 ≤ cK k ∧ cK k < 4 := tm k 4 (by omega) (by omega)
theorem cN_b (k : Int) : 0 ≤ cN k ∧ cN k < 16 := tm k 16 (by omega) (by omega)
theorem cM_b (k : Int) : 0 ≤ cM k ∧ cM k < 20 := tm k 20 (by omega) (by omega)
theorem cL_b (k : Int) : 1 ≤ cL k ∧ cL k ≤ 50 := by
  have := tm k 50 (by omega) (by omega)
  unfold cL
  rw [wrap_i64]
  omega
theorem set_nil (k n l : Int) (h : 0 ≤ k ∧ k ≤ 3 ∧ 0 ≤ n ∧ n < 16 ∧ 1 ≤ l ∧ l ≤ 1073741824) : Good Try.prog 29 [.sl .sh 3 [], eA k n l] (.tuple [.sl .own 3 [al (k, n, l)], .int .i64 0]) := by
  apply good_at ak29 rfl rfl rfl
  conv => whnf
  refine ⟨_, right_good _ _ _, ?_⟩
  conv => whnf
  refine And.intro (fun hc0 => ?_) (fun hc0 => ?_)
  · replace hc0 := of_decide_eq_false (Bool.not_eq_true' _ |>.mp hc0)
    contradiction
  · replace hc0 := of_decide_eq_true (Bool.not_eq_false' _ |>.mp hc0)
    conv => whnf
    refine loop_run 300 ?_
    conv => whnf
    refine And.intro (by exact rfl) ?_
    conv => whnf
    refine br_r rfl rfl ?_
    conv => whnf
    refine And.intro (by exact rfl) ?_
    conv => whnf
    refine And.intro (by decide) ?_
    refine And.intro (by decide) ?_
    refine And.intro (by decide) ?_
    conv => whnf
    refine ⟨_, (stop_good (l := [])) _ _ _ ?_ ?_, ?_⟩
    · (simp [maxLen]; done)
    · decide
    · conv => whnf
      refine And.intro (by (simp [maxLen]; done)) ?_
      refine And.intro (by (simp [maxLen]; done)) ?_
      refine And.intro (by (simp [maxLen]; done)) ?_
      conv => whnf
      refine And.intro (by exact rfl) ?_
      conv => whnf
      refine And.intro (by decide) ?_
      refine And.intro (by decide) ?_
      refine And.intro (by decide) ?_
      conv => whnf
      refine ⟨_, (stop_good (l := [])) _ _ _ ?_ ?_, ?_⟩
      · (simp [maxLen]; done)
      · decide
      · conv => whnf
        refine And.intro (by (simp [maxLen]; done)) ?_
        refine And.intro (by (simp [maxLen]; done)) ?_
        refine And.intro (by (simp [maxLen]; done)) ?_
        conv => whnf
        refine AV.of_eqv ?_
        conv => whnf
        refine And.intro (by exact rfl) ?_
        conv => whnf
        refine And.intro (by with_reducible rfl) ?_
        exact True.intro
def tl (k n l : Int) (j : Nat) : List Al := if (j : Int) < l then [(k, n, l - j)] else []
theorem tl_len (k n l : Int) (j : Nat) : (tl k n l j).length ≤ 1 := by unfold tl; split <;> simp
theorem tick_a (k n l : Int) (j : Nat) (h : (j : Int) + 1 < l) (hl : l ≤ 50) : Good Try.prog 30 [.sl .sh 3 ((tl k n l j).map al)] (.tuple [.sl .own 3 ((tl k n l (j + 1)).map al), .sl .own 3 []]) :=
  (tick_good _ (Nat.le_trans (tl_len k n l j) (by omega))).eq (by
    have e1 : tl k n l j = [(k, n, l - j)] := if_pos (by omega)
    have e2 : tl k n l (j + 1) = [(k, n, l - ((j + 1 : Nat) : Int))] := if_pos (by omega)
    have e3 : onE (k, n, l - (j : Int)) = some (k, n, l - ((j + 1 : Nat) : Int)) := by
      show (if 1 < l - (j : Int) then some (k, n, IntKind.i64.wrap (l - (j : Int) - 1)) else none) = _
      rw [if_pos (by omega), wrap_i64]
      congr 3
      omega
    have e4 : offE (k, n, l - (j : Int)) = none := if_pos (show 1 < l - (j : Int) by omega)
    rw [e1, e2]
    simp [List.filterMap_cons, e3, e4])
theorem tick_b (k n l : Int) (j : Nat) (h : (j : Int) + 1 = l) : Good Try.prog 30 [.sl .sh 3 ((tl k n l j).map al)] (.tuple [.sl .own 3 ((tl k n l (j + 1)).map al), .sl .own 3 [[.int .i64 k, .int .i64 n, .int .i64 0]]]) :=
  (tick_good _ (Nat.le_trans (tl_len k n l j) (by omega))).eq (by
    have e1 : tl k n l j = [(k, n, l - j)] := if_pos (by omega)
    have e2 : tl k n l (j + 1) = [] := if_neg (by omega)
    have e3 : onE (k, n, l - (j : Int)) = none := if_neg (show ¬ 1 < l - (j : Int) by omega)
    have e4 : offE (k, n, l - (j : Int)) = some (k, n, 0) := if_neg (show ¬ 1 < l - (j : Int) by omega)
    rw [e1, e2]
    simp [List.filterMap_cons, e3, e4, al])
theorem tick_c (k n l : Int) (j : Nat) (h : l ≤ (j : Int)) : Good Try.prog 30 [.sl .sh 3 ((tl k n l j).map al)] (.tuple [.sl .own 3 ((tl k n l (j + 1)).map al), .sl .own 3 []]) :=
  (tick_good _ (Nat.le_trans (tl_len k n l j) (by omega))).eq (by
    have e1 : tl k n l j = [] := if_neg (by omega)
    have e2 : tl k n l (j + 1) = [] := if_neg (by omega)
    rw [e1, e2]
    rfl)
theorem left_a (k n l : Int) (j : Nat) (h : (j : Int) + 1 < l) : Good Try.prog 31 [.sl .sh 3 ((tl k n l (j + 1)).map al), .int .i64 k, .int .i64 n] (.int .i64 (l - ((j : Int) + 1))) :=
  (left_good _ _ _ (Nat.le_trans (tl_len k n l (j + 1)) (by omega))).eq (by
    have e1 : tl k n l (j + 1) = [(k, n, l - ((j + 1 : Nat) : Int))] := if_pos (by omega)
    rw [e1]
    simp [leftOf, List.find?, hit])
theorem timerOnce_good (k n l m : Int) : Good Try.prog 5 [eA k n l, .int .i64 m] (.bool true) := by
  have hK := cK_b k
  have hN := cN_b n
  have hL := cL_b l
  have hM := cM_b m
  have hW : IntKind.i64.wrap (cL l + IntKind.i64.wrap ((IntKind.u64.wrap m).tmod 20)) = cL l + cM m := by
    show IntKind.i64.wrap (cL l + cM m) = _
    rw [wrap_i64]; omega
  apply good_at ak5 rfl rfl rfl
  conv => whnf
  refine And.intro (by decide) ?_
  conv => whnf
  refine And.intro (by decide) ?_
  conv => whnf
  refine And.intro (by decide) ?_
  conv => whnf
  refine ⟨_, (set_nil (cK k) (cN n) (cL l)) ?_, ?_⟩
  · omega
  · conv => whnf
    refine br_l rfl rfl ?_
    conv => whnf
    refine br_l rfl rfl ?_
    conv => whnf
    refine br_l rfl rfl ?_
    conv => whnf
    refine br_r rfl rfl ?_
    conv => whnf
    refine br_r rfl rfl ?_
    conv => whnf
    refine loop_at (α := Nat) (fun j => [(8, .int .i64 ((j : Int) + 1)), (7, .int .i64 (if cL l ≤ (j : Int) then 1 else 0)), (5, .sl .own 3 ((tl (cK k) (cN n) (cL l) j).map al))]) (fun j => [(0, some ⟨true, 3, [[.int .i64 (cK k), .int .i64 (cN n), .int .i64 (cL l)]]⟩)]) (fun j => (j : Int) ≤ cL l + cM m) (fun j => (cL l + cM m - (j : Int)).toNat) (0) (st_of ?_) ?_ (by rintro j _; rfl) ?_
    · conv => whnf
      refine And.intro (by with_reducible rfl) ?_
      conv => whnf
      refine And.intro (by with_reducible rfl) ?_
      conv => whnf
      refine And.intro (by with_reducible rfl) ?_
      conv => whnf
      refine And.intro (by with_reducible rfl) ?_
      conv => whnf
      refine And.intro (by with_reducible rfl) ?_
      refine And.intro (by with_reducible rfl) ?_
      conv => whnf
      refine And.intro (by (have e : tl (cK k) (cN n) (cL l) 0 = [(cK k, cN n, cL l - ((0 : Nat) : Int))] := if_pos (by omega); rw [e]; simp; done)) ?_
      conv => whnf
      refine And.intro (by with_reducible rfl) ?_
      conv => whnf
      refine And.intro (by omega) ?_
      conv => whnf
      refine And.intro (by decide) ?_
      conv => whnf
      refine And.intro (by with_reducible rfl) ?_
      refine And.intro (by with_reducible rfl) ?_
      conv => whnf
      refine And.intro (by with_reducible rfl) ?_
      conv => whnf
      refine And.intro (by with_reducible rfl) ?_
      conv => whnf
      refine And.intro (by with_reducible rfl) ?_
      conv => whnf
      refine And.intro (by with_reducible rfl) ?_
      conv => whnf
      refine And.intro (by with_reducible rfl) ?_
      refine And.intro (by with_reducible rfl) ?_
      conv => whnf
      refine And.intro (by with_reducible rfl) ?_
      conv => whnf
      refine And.intro (by with_reducible rfl) ?_
      conv => whnf
      refine And.intro (by with_reducible rfl) ?_
      conv => whnf
      refine And.intro (by with_reducible rfl) ?_
      conv => whnf
      refine And.intro (by with_reducible rfl) ?_
      refine And.intro (by with_reducible rfl) ?_
      conv => whnf
      refine And.intro (by with_reducible rfl) ?_
      conv => whnf
      refine And.intro (by with_reducible rfl) ?_
      conv => whnf
      refine And.intro (by with_reducible rfl) ?_
      conv => whnf
      refine And.intro (by with_reducible rfl) ?_
      conv => whnf
      refine And.intro (by with_reducible rfl) ?_
      conv => whnf
      refine And.intro (by with_reducible rfl) ?_
      refine And.intro (by with_reducible rfl) ?_
      conv => whnf
      refine And.intro (by with_reducible rfl) ?_
      refine And.intro (by with_reducible rfl) ?_
      conv => whnf
      refine And.intro (by with_reducible rfl) ?_
      refine And.intro (by with_reducible rfl) ?_
      conv => whnf
      refine And.intro (by with_reducible rfl) ?_
      conv => whnf
      refine And.intro (by with_reducible rfl) ?_
      conv => whnf
      refine And.intro (by with_reducible rfl) ?_
      conv => whnf
      refine And.intro (by with_reducible rfl) ?_
      conv => whnf
      refine And.intro (by with_reducible rfl) ?_
      conv => whnf
      refine And.intro (by with_reducible rfl) ?_
      conv => whnf
      refine And.intro (by with_reducible rfl) ?_
      conv => whnf
      refine And.intro (by with_reducible rfl) ?_
      conv => whnf
      refine And.intro (by with_reducible rfl) ?_
      conv => whnf
      refine And.intro (by with_reducible rfl) ?_
      conv => whnf
      refine And.intro (by with_reducible rfl) ?_
      conv => whnf
      refine And.intro (by with_reducible rfl) ?_
      conv => whnf
      refine And.intro (by with_reducible rfl) ?_
      conv => whnf
      refine And.intro (by with_reducible rfl) ?_
      conv => whnf
      refine And.intro (by with_reducible rfl) ?_
      conv => whnf
      refine And.intro (by with_reducible rfl) ?_
      conv => whnf
      refine And.intro (by exact rfl) ?_
      conv => whnf
      refine And.intro (by exact rfl) ?_
      conv => whnf
      refine And.intro (by exact rfl) ?_
      exact True.intro
    · omega
    · rintro j nextl0 hIl0 ihl0
      try dsimp only at hIl0
      rcases (show (j : Int) + 1 < cL l ∨ (j : Int) + 1 = cL l ∨ cL l ≤ (j : Int) by omega) with hj | hj | hj
      · conv => whnf
        refine And.intro (by decide) ?_
        conv => whnf
        refine And.intro (fun hc0 => ?_) (fun hc0 => ?_)
        · replace hc0 := of_decide_eq_true hc0
          conv => whnf
          refine ⟨_, tick_a _ _ _ _ ?_ ?_, ?_⟩
          · assumption
          · omega
          · conv => whnf
            refine br_r rfl rfl ?_
            conv => whnf
            refine And.intro (by exact rfl) ?_
            conv => whnf
            refine And.intro (fun hc1 => ?_) (fun hc1 => ?_)
            · replace hc1 := of_decide_eq_true hc1
              conv => whnf
              refine br_l rfl rfl ?_
              conv => whnf
              refine br_l rfl rfl ?_
              conv => whnf
              refine br_l rfl rfl ?_
              conv => whnf
              refine br_l rfl rfl ?_
              conv => whnf
              refine br_l rfl rfl ?_
              conv => whnf
              refine ⟨_, left_a _ _ _ _ ?_, ?_⟩
              · assumption
              · conv => whnf
                refine br_l rfl rfl ?_
                conv => whnf
                refine br_l rfl rfl ?_
                conv => whnf
                refine br_l rfl rfl ?_
                conv => whnf
                refine br_l rfl rfl ?_
                conv => whnf
                refine br_l rfl rfl ?_
                conv => whnf
                refine br_l rfl rfl ?_
                conv => whnf
                refine And.intro (fun hc2 => ?_) (fun hc2 => ?_)
                · replace hc2 := of_decide_eq_false (Bool.not_eq_true' _ |>.mp hc2)
                  conv => whnf
                  refine AV.of_eqv ?_
                  conv => whnf
                  refine And.intro (by (simp only [wrap_i64] at *; omega)) ?_
                  exact True.intro
                · replace hc2 := of_decide_eq_true (Bool.not_eq_false' _ |>.mp hc2)
                  conv => whnf
                  refine ihl0 (j + 1) _ ?_ ?_ (st_of ?_)
                  · omega
                  · omega
                  · conv => whnf
                    refine And.intro (by with_reducible rfl) ?_
                    conv => whnf
                    refine And.intro (by with_reducible rfl) ?_
                    conv => whnf
                    refine And.intro (by with_reducible rfl) ?_
                    conv => whnf
                    refine And.intro (by with_reducible rfl) ?_
                    conv => whnf
                    refine And.intro (by with_reducible rfl) ?_
                    refine And.intro (by with_reducible rfl) ?_
                    conv => whnf
                    refine And.intro (by with_reducible rfl) ?_
                    conv => whnf
                    refine And.intro (by with_reducible rfl) ?_
                    conv => whnf
                    refine And.intro (by omega) ?_
                    conv => whnf
                    refine And.intro (by (simp only [wrap_i64] at *; omega)) ?_
                    conv => whnf
                    refine And.intro (by with_reducible rfl) ?_
                    refine And.intro (by with_reducible rfl) ?_
                    conv => whnf
                    refine And.intro (by with_reducible rfl) ?_
                    conv => whnf
                    refine And.intro (by with_reducible rfl) ?_
                    conv => whnf
                    refine And.intro (by with_reducible rfl) ?_
                    conv => whnf
                    refine And.intro (by with_reducible rfl) ?_
                    conv => whnf
                    refine And.intro (by with_reducible rfl) ?_
                    refine And.intro (by with_reducible rfl) ?_
                    conv => whnf
                    refine And.intro (by with_reducible rfl) ?_
                    conv => whnf
                    refine And.intro (by with_reducible rfl) ?_
                    conv => whnf
                    refine And.intro (by with_reducible rfl) ?_
                    conv => whnf
                    refine And.intro (by with_reducible rfl) ?_
                    conv => whnf
                    refine And.intro (by with_reducible rfl) ?_
                    refine And.intro (by with_reducible rfl) ?_
                    conv => whnf
                    refine And.intro (by with_reducible rfl) ?_
                    conv => whnf
                    refine And.intro (by with_reducible rfl) ?_
                    conv => whnf
                    refine And.intro (by with_reducible rfl) ?_
                    conv => whnf
                    refine And.intro (by with_reducible rfl) ?_
                    conv => whnf
                    refine And.intro (by with_reducible rfl) ?_
                    conv => whnf
                    refine And.intro (by with_reducible rfl) ?_
                    refine And.intro (by with_reducible rfl) ?_
                    conv => whnf
                    refine And.intro (by with_reducible rfl) ?_
                    refine And.intro (by with_reducible rfl) ?_
                    conv => whnf
                    refine And.intro (by with_reducible rfl) ?_
                    refine And.intro (by with_reducible rfl) ?_
                    conv => whnf
                    refine And.intro (by with_reducible rfl) ?_
                    conv => whnf
                    refine And.intro (by with_reducible rfl) ?_
                    conv => whnf
                    refine And.intro (by with_reducible rfl) ?_
                    conv => whnf
                    refine And.intro (by with_reducible rfl) ?_
                    conv => whnf
                    refine And.intro (by with_reducible rfl) ?_
                    conv => whnf
                    refine And.intro (by with_reducible rfl) ?_
                    conv => whnf
                    refine And.intro (by with_reducible rfl) ?_
                    conv => whnf
                    refine And.intro (by with_reducible rfl) ?_
                    conv => whnf
                    refine And.intro (by with_reducible rfl) ?_
                    conv => whnf
                    refine And.intro (by with_reducible rfl) ?_
                    conv => whnf
                    refine And.intro (by with_reducible rfl) ?_
                    conv => whnf
                    refine And.intro (by with_reducible rfl) ?_
                    conv => whnf
                    refine And.intro (by with_reducible rfl) ?_
                    conv => whnf
                    refine And.intro (by with_reducible rfl) ?_
                    conv => whnf
                    refine And.intro (by with_reducible rfl) ?_
                    conv => whnf
                    refine And.intro (by with_reducible rfl) ?_
                    conv => whnf
                    refine And.intro (by with_reducible rfl) ?_
                    conv => whnf
                    refine And.intro (by with_reducible rfl) ?_
                    conv => whnf
                    refine And.intro (by with_reducible rfl) ?_
                    exact True.intro
            · replace hc1 := of_decide_eq_false hc1
              contradiction
        · replace hc0 := of_decide_eq_false hc0
          (exfalso; omega)
      · conv => whnf
        refine And.intro (by decide) ?_
        conv => whnf
        refine And.intro (fun hc3 => ?_) (fun hc3 => ?_)
        · replace hc3 := of_decide_eq_true hc3
          conv => whnf
          refine ⟨_, tick_b _ _ _ _ ?_, ?_⟩
          · assumption
          · conv => whnf
            refine br_l rfl rfl ?_
            conv => whnf
            refine And.intro (by exact rfl) ?_
            conv => whnf
            refine And.intro (fun hc4 => ?_) (fun hc4 => ?_)
            · replace hc4 := of_decide_eq_true (Bool.not_eq_false' _ |>.mp hc4)
              conv => whnf
              refine br_l rfl rfl ?_
              conv => whnf
              refine And.intro (by decide) ?_
              refine And.intro (by decide) ?_
              with_reducible refine ⟨_, rfl, ?_⟩
              conv => whnf
              refine br_l rfl rfl ?_
              conv => whnf
              refine br_l rfl rfl ?_
              conv => whnf
              refine br_l rfl rfl ?_
              conv => whnf
              refine br_l rfl rfl ?_
              conv => whnf
              refine br_l rfl rfl ?_
              conv => whnf
              refine br_r rfl rfl ?_
              conv => whnf
              refine And.intro (fun hc6 => ?_) (fun hc6 => ?_)
              · replace hc6 := of_decide_eq_true (Bool.not_eq_false' _ |>.mp hc6)
                conv => whnf
                refine br_l rfl rfl ?_
                conv => whnf
                refine And.intro (by decide) ?_
                refine And.intro (by decide) ?_
                with_reducible refine ⟨_, rfl, ?_⟩
                conv => whnf
                refine br_l rfl rfl ?_
                conv => whnf
                refine br_l rfl rfl ?_
                conv => whnf
                refine br_l rfl rfl ?_
                conv => whnf
                refine br_l rfl rfl ?_
                conv => whnf
                refine br_l rfl rfl ?_
                conv => whnf
                refine br_r rfl rfl ?_
                conv => whnf
                refine And.intro (fun hc8 => ?_) (fun hc8 => ?_)
                · replace hc8 := of_decide_eq_false (Bool.not_eq_true' _ |>.mp hc8)
                  contradiction
                · replace hc8 := of_decide_eq_true (Bool.not_eq_false' _ |>.mp hc8)
                  conv => whnf
                  refine And.intro (by exact rfl) ?_
                  conv => whnf
                  refine And.intro (fun hc9 => ?_) (fun hc9 => ?_)
                  · replace hc9 := of_decide_eq_true hc9
                    (exfalso; omega)
                  · replace hc9 := of_decide_eq_false hc9
                    conv => whnf
                    refine br_r rfl rfl ?_
                    conv => whnf
                    refine br_r rfl rfl ?_
                    conv => whnf
                    refine br_r rfl rfl ?_
                    conv => whnf
                    refine br_r rfl rfl ?_
                    conv => whnf
                    refine br_r rfl rfl ?_
                    conv => whnf
                    refine br_r rfl rfl ?_
                    conv => whnf
                    refine br_r rfl rfl ?_
                    conv => whnf
                    refine br_r rfl rfl ?_
                    conv => whnf
                    refine br_r rfl rfl ?_
                    conv => whnf
                    refine br_r rfl rfl ?_
                    conv => whnf
                    refine br_r rfl rfl ?_
                    conv => whnf
                    refine br_r rfl rfl ?_
                    conv => whnf
                    refine ihl0 (j + 1) _ ?_ ?_ (st_of ?_)
                    · omega
                    · omega
                    · conv => whnf
                      refine And.intro (by with_reducible rfl) ?_
                      conv => whnf
                      refine And.intro (by with_reducible rfl) ?_
                      conv => whnf
                      refine And.intro (by with_reducible rfl) ?_
                      conv => whnf
                      refine And.intro (by with_reducible rfl) ?_
                      conv => whnf
                      refine And.intro (by with_reducible rfl) ?_
                      refine And.intro (by with_reducible rfl) ?_
                      conv => whnf
                      refine And.intro (by with_reducible rfl) ?_
                      conv => whnf
                      refine And.intro (by with_reducible rfl) ?_
                      conv => whnf
                      refine And.intro (by (simp only [wrap_i64] at *; omega)) ?_
                      conv => whnf
                      refine And.intro (by (simp only [wrap_i64] at *; omega)) ?_
                      conv => whnf
                      refine And.intro (by with_reducible rfl) ?_
                      refine And.intro (by with_reducible rfl) ?_
                      conv => whnf
                      refine And.intro (by with_reducible rfl) ?_
                      conv => whnf
                      refine And.intro (by with_reducible rfl) ?_
                      conv => whnf
                      refine And.intro (by with_reducible rfl) ?_
                      conv => whnf
                      refine And.intro (by with_reducible rfl) ?_
                      conv => whnf
                      refine And.intro (by with_reducible rfl) ?_
                      refine And.intro (by with_reducible rfl) ?_
                      conv => whnf
                      refine And.intro (by with_reducible rfl) ?_
                      conv => whnf
                      refine And.intro (by with_reducible rfl) ?_
                      conv => whnf
                      refine And.intro (by with_reducible rfl) ?_
                      conv => whnf
                      refine And.intro (by with_reducible rfl) ?_
                      conv => whnf
                      refine And.intro (by with_reducible rfl) ?_
                      refine And.intro (by with_reducible rfl) ?_
                      conv => whnf
                      refine And.intro (by with_reducible rfl) ?_
                      conv => whnf
                      refine And.intro (by with_reducible rfl) ?_
                      conv => whnf
                      refine And.intro (by with_reducible rfl) ?_
                      conv => whnf
                      refine And.intro (by with_reducible rfl) ?_
                      conv => whnf
                      refine And.intro (by with_reducible rfl) ?_
                      conv => whnf
                      refine And.intro (by with_reducible rfl) ?_
                      refine And.intro (by with_reducible rfl) ?_
                      conv => whnf
                      refine And.intro (by with_reducible rfl) ?_
                      refine And.intro (by with_reducible rfl) ?_
                      conv => whnf
                      refine And.intro (by with_reducible rfl) ?_
                      refine And.intro (by with_reducible rfl) ?_
                      conv => whnf
                      refine And.intro (by with_reducible rfl) ?_
                      conv => whnf
                      refine And.intro (by with_reducible rfl) ?_
                      conv => whnf
                      refine And.intro (by with_reducible rfl) ?_
                      conv => whnf
                      refine And.intro (by with_reducible rfl) ?_
                      conv => whnf
                      refine And.intro (by with_reducible rfl) ?_
                      conv => whnf
                      refine And.intro (by with_reducible rfl) ?_
                      conv => whnf
                      refine And.intro (by with_reducible rfl) ?_
                      conv => whnf
                      refine And.intro (by with_reducible rfl) ?_
                      conv => whnf
                      refine And.intro (by with_reducible rfl) ?_
                      conv => whnf
                      refine And.intro (by with_reducible rfl) ?_
                      conv => whnf
                      refine And.intro (by with_reducible rfl) ?_
                      conv => whnf
                      refine And.intro (by with_reducible rfl) ?_
                      conv => whnf
                      refine And.intro (by with_reducible rfl) ?_
                      conv => whnf
                      refine And.intro (by with_reducible rfl) ?_
                      conv => whnf
                      refine And.intro (by with_reducible rfl) ?_
                      conv => whnf
                      refine And.intro (by with_reducible rfl) ?_
                      conv => whnf
                      refine And.intro (by with_reducible rfl) ?_
                      conv => whnf
                      refine And.intro (by with_reducible rfl) ?_
                      conv => whnf
                      refine And.intro (by with_reducible rfl) ?_
                      exact True.intro
              · replace hc6 := of_decide_eq_false (Bool.not_eq_true' _ |>.mp hc6)
                contradiction
            · replace hc4 := of_decide_eq_false (Bool.not_eq_true' _ |>.mp hc4)
              contradiction
        · replace hc3 := of_decide_eq_false hc3
          (exfalso; omega)
      · conv => whnf
        refine And.intro (by decide) ?_
        conv => whnf
        refine And.intro (fun hc10 => ?_) (fun hc10 => ?_)
        · replace hc10 := of_decide_eq_true hc10
          conv => whnf
          refine ⟨_, tick_c _ _ _ _ ?_, ?_⟩
          · assumption
          · conv => whnf
            refine br_r rfl rfl ?_
            conv => whnf
            refine And.intro (by exact rfl) ?_
            conv => whnf
            refine And.intro (fun hc11 => ?_) (fun hc11 => ?_)
            · replace hc11 := of_decide_eq_true hc11
              (exfalso; omega)
            · replace hc11 := of_decide_eq_false hc11
              conv => whnf
              refine br_r rfl rfl ?_
              conv => whnf
              refine br_r rfl rfl ?_
              conv => whnf
              refine br_r rfl rfl ?_
              conv => whnf
              refine br_r rfl rfl ?_
              conv => whnf
              refine br_r rfl rfl ?_
              conv => whnf
              refine br_r rfl rfl ?_
              conv => whnf
              refine br_r rfl rfl ?_
              conv => whnf
              refine br_r rfl rfl ?_
              conv => whnf
              refine br_r rfl rfl ?_
              conv => whnf
              refine br_r rfl rfl ?_
              conv => whnf
              refine br_r rfl rfl ?_
              conv => whnf
              refine br_r rfl rfl ?_
              conv => whnf
              refine ihl0 (j + 1) _ ?_ ?_ (st_of ?_)
              · omega
              · omega
              · conv => whnf
                refine And.intro (by with_reducible rfl) ?_
                conv => whnf
                refine And.intro (by with_reducible rfl) ?_
                conv => whnf
                refine And.intro (by with_reducible rfl) ?_
                conv => whnf
                refine And.intro (by with_reducible rfl) ?_
                conv => whnf
                refine And.intro (by with_reducible rfl) ?_
                refine And.intro (by with_reducible rfl) ?_
                conv => whnf
                refine And.intro (by with_reducible rfl) ?_
                conv => whnf
                refine And.intro (by with_reducible rfl) ?_
                conv => whnf
                refine And.intro (by omega) ?_
                conv => whnf
                refine And.intro (by (simp only [wrap_i64] at *; omega)) ?_
                conv => whnf
                refine And.intro (by with_reducible rfl) ?_
                refine And.intro (by with_reducible rfl) ?_
                conv => whnf
                refine And.intro (by with_reducible rfl) ?_
                conv => whnf
                refine And.intro (by with_reducible rfl) ?_
                conv => whnf
                refine And.intro (by with_reducible rfl) ?_
                conv => whnf
                refine And.intro (by with_reducible rfl) ?_
                conv => whnf
                refine And.intro (by with_reducible rfl) ?_
                refine And.intro (by with_reducible rfl) ?_
                conv => whnf
                refine And.intro (by with_reducible rfl) ?_
                conv => whnf
                refine And.intro (by with_reducible rfl) ?_
                conv => whnf
                refine And.intro (by with_reducible rfl) ?_
                conv => whnf
                refine And.intro (by with_reducible rfl) ?_
                conv => whnf
                refine And.intro (by with_reducible rfl) ?_
                refine And.intro (by with_reducible rfl) ?_
                conv => whnf
                refine And.intro (by with_reducible rfl) ?_
                conv => whnf
                refine And.intro (by with_reducible rfl) ?_
                conv => whnf
                refine And.intro (by with_reducible rfl) ?_
                conv => whnf
                refine And.intro (by with_reducible rfl) ?_
                conv => whnf
                refine And.intro (by with_reducible rfl) ?_
                conv => whnf
                refine And.intro (by with_reducible rfl) ?_
                refine And.intro (by with_reducible rfl) ?_
                conv => whnf
                refine And.intro (by with_reducible rfl) ?_
                refine And.intro (by with_reducible rfl) ?_
                conv => whnf
                refine And.intro (by with_reducible rfl) ?_
                refine And.intro (by with_reducible rfl) ?_
                conv => whnf
                refine And.intro (by with_reducible rfl) ?_
                conv => whnf
                refine And.intro (by with_reducible rfl) ?_
                conv => whnf
                refine And.intro (by with_reducible rfl) ?_
                conv => whnf
                refine And.intro (by with_reducible rfl) ?_
                conv => whnf
                refine And.intro (by with_reducible rfl) ?_
                conv => whnf
                refine And.intro (by with_reducible rfl) ?_
                conv => whnf
                refine And.intro (by with_reducible rfl) ?_
                conv => whnf
                refine And.intro (by with_reducible rfl) ?_
                conv => whnf
                refine And.intro (by with_reducible rfl) ?_
                conv => whnf
                refine And.intro (by with_reducible rfl) ?_
                conv => whnf
                refine And.intro (by with_reducible rfl) ?_
                conv => whnf
                refine And.intro (by with_reducible rfl) ?_
                conv => whnf
                refine And.intro (by with_reducible rfl) ?_
                conv => whnf
                refine And.intro (by with_reducible rfl) ?_
                conv => whnf
                refine And.intro (by with_reducible rfl) ?_
                conv => whnf
                refine And.intro (by with_reducible rfl) ?_
                conv => whnf
                refine And.intro (by with_reducible rfl) ?_
                conv => whnf
                refine And.intro (by with_reducible rfl) ?_
                conv => whnf
                refine And.intro (by with_reducible rfl) ?_
                exact True.intro
        · replace hc10 := of_decide_eq_false hc10
          conv => whnf
          refine And.intro (fun hc12 => ?_) (fun hc12 => ?_)
          · replace hc12 := of_decide_eq_true hc12
            conv => whnf
            refine br_l rfl rfl ?_
            conv => whnf
            refine br_l rfl rfl ?_
            conv => whnf
            refine br_l rfl rfl ?_
            conv => whnf
            refine And.intro (fun hc13 => ?_) (fun hc13 => ?_)
            · replace hc13 := of_decide_eq_true hc13
              conv => whnf
              refine ⟨_, awake13_good, ?_⟩
              conv => whnf
              refine br_l rfl rfl ?_
              conv => whnf
              refine AV.of_eqv ?_
              conv => whnf
              refine And.intro (by with_reducible rfl) ?_
              exact True.intro
            · replace hc13 := of_decide_eq_false hc13
              (exfalso; have e : tl (cK k) (cN n) (cL l) j = [] := if_neg (by omega); simp [e] at *; done)
          · replace hc12 := of_decide_eq_false hc12
            (exfalso; omega)
end Go.Proofs.Ytmchbkmenokkdaa

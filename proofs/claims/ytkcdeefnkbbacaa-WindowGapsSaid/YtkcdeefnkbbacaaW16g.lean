/- The law WindowGaps. -/
import Derived.Test.YtkcdeefnkbbacaaW16e
import Derived.Test.YtkcdeefnkbbacaaW16f
set_option maxRecDepth 100000
set_option linter.unusedSimpArgs false
set_option linter.unusedVariables false
namespace Go.Proofs.Ytkcdeefnkbbacaa
open Go.RowKit
set_option maxHeartbeats 4000000
theorem top_any (l : List Int) (m : Int) (hm : -1 ≤ m) : decide (m < topI l) = l.any fun x => decide (m < x ∧ rtN x) := by
  have key : ∀ (l : List Int) (t : Int), decide (m < l.foldl (fun t x => if rtN x then max t x else t) t) = (decide (m < t) || l.any fun x => decide (m < x ∧ rtN x)) := by
    intro l
    induction l with
    | nil => intro t; show decide (m < t) = (decide (m < t) || false); rw [Bool.or_false]
    | cons x l ih =>
      intro t
      rw [List.foldl_cons, ih, List.any_cons, ← Bool.or_assoc]
      congr 1
      by_cases h : rtN x
      · rw [if_pos h]
        by_cases h1 : m < t <;> by_cases h2 : m < x <;> simp [h1, h2, h] <;> omega
      · rw [if_neg h, decide_eq_false (p := m < x ∧ rtN x) (fun hh => h hh.2), Bool.or_false]
  unfold topI
  rw [key l (-1), decide_eq_false (by omega), Bool.false_or]
theorem msP_ref {n : Int} {l : List Int} {k : Nat} (hn : rtN n) (hk : n + k ≤ 65535) : msP n l k = (!(l.any fun x => decide (x = n + (k : Int))) && !pastB l (n + k)) := by
  unfold msP pastB
  rw [top_any l (n + k) (by omega), Bool.not_not, Bool.and_comm]
  congr 2
  have : (fun x : Int => decide (rtN x ∧ x = n + (k : Int))) = fun x : Int => decide (x = n + (k : Int)) := by
    funext x
    exact decide_eq_decide.2 ⟨fun h => h.2, fun h => ⟨by omega, h⟩⟩
  rw [this]
theorem any_snoc {l : List Int} {i : Nat} {x : Int} (p : Int → Bool) (h : l[i]? = some x) : (l.take (i + 1)).any p = ((l.take i).any p || p x) := by
  rw [take_at h, List.any_append]; simp
theorem ms_add {n : Int} {l : List Int} {k : Nat} (hn : rtN n) (hk : n + k ≤ 65535) (h1 : (l.any fun x => decide (x = n + (k : Int))) = false) (h2 : pastB l (n + k) = false) : (msI n l k).map i1 ++ [[.int .i64 (n + (k : Int))]] = (msI n l (k + 1)).map i1 := by
  rw [ms_succ, if_pos (by rw [msP_ref hn hk, h1, h2]; rfl), List.map_append]; rfl
theorem ms_same {n : Int} {l : List Int} {k : Nat} (hn : rtN n) (hk : n + k ≤ 65535) (h : (l.any fun x => decide (x = n + (k : Int))) = true ∨ pastB l (n + k) = true) : (msI n l k).map i1 = (msI n l (k + 1)).map i1 := by
  rw [ms_succ, if_neg (by rw [msP_ref hn hk]; rcases h with h | h <;> rw [h] <;> simp), List.append_nil]
theorem ms_out {n : Int} {l : List Int} {k : Nat} (hk : k ≤ 8) (h : ¬ n + k ≤ 65535) : msI n l k = msI n l 8 := ms_end hk (.inr (by have := (top_b l).2; omega))
theorem any_f {l : List Int} {j : Nat} {x m w : Int} (hx : l[j]? = some x) (h : ((l.take j).any fun x => decide (x = m)) = false) (hw : w = m) : decide (x = w) = (l.take (j + 1)).any fun x => decide (x = m) := by
  rw [any_snoc _ hx, h, hw]; rfl
theorem any_t {l : List Int} {j : Nat} {x m : Int} (hx : l[j]? = some x) (h : ((l.take j).any fun x => decide (x = m)) = true) : true = (l.take (j + 1)).any fun x => decide (x = m) := by
  rw [any_snoc _ hx, h]; rfl
theorem ms_add' {n w : Int} {l : List Int} {j k : Nat} (h1 : ((l.take j).any fun x => decide (x = n + (k : Int))) = false) (hj : ¬ j < l.length) (h2 : pastB l w = false) (hn : rtN n) (hk : n + k ≤ 65535) (hw : w = n + k) : (msI n l k).map i1 ++ [[.int .i64 w]] = (msI n l (k + 1)).map i1 := by
  rw [take_end hj] at h1; subst hw; exact ms_add hn hk h1 h2
theorem ms_past {n w : Int} {l : List Int} {k : Nat} (h2 : pastB l w = true) (hn : rtN n) (hk : n + k ≤ 65535) (hw : w = n + k) : (msI n l k).map i1 = (msI n l (k + 1)).map i1 := by
  subst hw; exact ms_same hn hk (.inr h2)
theorem ms_in {n : Int} {l : List Int} {j k : Nat} (h1 : ((l.take j).any fun x => decide (x = n + (k : Int))) = true) (hj : ¬ j < l.length) (hn : rtN n) (hk : n + k ≤ 65535) : (msI n l k).map i1 = (msI n l (k + 1)).map i1 := by
  rw [take_end hj] at h1; exact ms_same hn hk (.inl h1)
theorem rmissing_good (n : Int) (l : List Int) (hl : l.length ≤ 1000000) : Good Try.prog 76 [.int .i64 n, .sl .sh 1 (l.map i1)] (.sl .own 1 ((missI n l).map i1)) := by
  by_cases hn : rtN n
  · rw [show missI n l = msI n l 8 from if_pos hn]
    apply good_at ak76 rfl rfl rfl
    conv => whnf
    refine loop_at (α := Nat) [] (fun k => [(10, .int .i64 (k : Int)), (5, .sl .own 1 ((msI n l k).map i1))]) (fun k => []) (fun k => k ≤ 8) (fun k => 8 - k) (0) (st_of ?_) ?_ (by rintro k _; rfl) ?_
    · conv => whnf
      refine And.intro (by with_reducible rfl) ?_
      conv => whnf
      refine And.intro (by with_reducible rfl) ?_
      conv => whnf
      refine And.intro (by with_reducible rfl) ?_
      conv => whnf
      refine And.intro (by exact rfl) ?_
      conv => whnf
      refine And.intro (by decide) ?_
      exact True.intro
    · decide
    · rintro k nextl0 hIl0 ihl0
      try dsimp only at hIl0
      conv => whnf
      refine And.intro (fun hc0 => ?_) (fun hc0 => ?_)
      · replace hc0 := of_decide_eq_true hc0
        conv => whnf
        refine ⟨_, rsright_good _, ?_⟩
        conv => whnf
        refine And.intro (fun hc1 => ?_) (fun hc1 => ?_)
        · replace hc1 := of_decide_eq_true (Bool.not_eq_false' _ |>.mp hc1)
          conv => whnf
          refine br_l rfl rfl ?_
          conv => whnf
          refine br_l rfl rfl ?_
          conv => whnf
          refine br_l rfl rfl ?_
          conv => whnf
          refine br_r rfl rfl ?_
          conv => whnf
          refine And.intro (fun hc2 => ?_) (fun hc2 => ?_)
          · replace hc2 := of_decide_eq_true hc2
            conv => whnf
            refine AV.of_eqv ?_
            conv => whnf
            refine And.intro (by (rw [ms_out (by assumption) (by simp only [wrap_i64] at *; omega)])) ?_
            exact True.intro
          · replace hc2 := of_decide_eq_false hc2
            conv => whnf
            refine loop_at (α := Nat) [] (fun j => [(24, .int .i64 (j : Int)), (7, .bool ((l.take j).any fun x => decide (x = n + (k : Int))))]) (fun j => []) (fun j => j ≤ l.length) (fun j => l.length - j) (0) (st_of ?_) ?_ (by rintro j _; rfl) ?_
            · conv => whnf
              refine And.intro (by with_reducible rfl) ?_
              conv => whnf
              refine And.intro (by with_reducible rfl) ?_
              conv => whnf
              refine And.intro (by with_reducible rfl) ?_
              conv => whnf
              refine And.intro (by with_reducible rfl) ?_
              conv => whnf
              refine And.intro (by with_reducible rfl) ?_
              conv => whnf
              refine And.intro (by (simp; done)) ?_
              conv => whnf
              refine And.intro (by with_reducible rfl) ?_
              conv => whnf
              refine And.intro (by with_reducible rfl) ?_
              conv => whnf
              refine And.intro (by with_reducible rfl) ?_
              conv => whnf
              refine And.intro (by with_reducible rfl) ?_
              conv => whnf
              refine And.intro (by with_reducible rfl) ?_
              conv => whnf
              refine And.intro (by with_reducible rfl) ?_
              conv => whnf
              refine And.intro (by with_reducible rfl) ?_
              conv => whnf
              refine And.intro (by with_reducible rfl) ?_
              conv => whnf
              refine And.intro (by with_reducible rfl) ?_
              conv => whnf
              refine And.intro (by with_reducible rfl) ?_
              conv => whnf
              refine And.intro (by with_reducible rfl) ?_
              conv => whnf
              refine And.intro (by with_reducible rfl) ?_
              conv => whnf
              refine And.intro (by with_reducible rfl) ?_
              conv => whnf
              refine And.intro (by with_reducible rfl) ?_
              conv => whnf
              refine And.intro (by decide) ?_
              exact True.intro
            · omega
            · rintro j nextl1 hIl1 ihl1
              try dsimp only at hIl1
              conv => whnf
              refine And.intro (fun hc3 => ?_) (fun hc3 => ?_)
              · replace hc3 := of_decide_eq_true hc3
                conv => whnf
                refine And.intro (by omega) ?_
                refine ex_row (l := l) ?_ fun x hx => ?_
                · (simp only [map_rows] at *; omega)
                · simp only [toNat_ofNat] at hx
                  conv => whnf
                  refine And.intro (fun hc5 => ?_) (fun hc5 => ?_)
                  · conv => whnf
                    refine br_l rfl rfl ?_
                    conv => whnf
                    refine br_l rfl rfl ?_
                    conv => whnf
                    refine br_l rfl rfl ?_
                    conv => whnf
                    refine br_l rfl rfl ?_
                    conv => whnf
                    refine br_r rfl rfl ?_
                    conv => whnf
                    refine ihl1 (j + 1) _ ?_ ?_ (st_of ?_)
                    · (simp only [map_rows] at *; omega)
                    · (simp only [map_rows] at *; omega)
                    · conv => whnf
                      refine And.intro (by with_reducible rfl) ?_
                      conv => whnf
                      refine And.intro (by with_reducible rfl) ?_
                      conv => whnf
                      refine And.intro (by with_reducible rfl) ?_
                      conv => whnf
                      refine And.intro (by with_reducible rfl) ?_
                      conv => whnf
                      refine And.intro (by with_reducible rfl) ?_
                      conv => whnf
                      refine And.intro (by (exact any_f hx (by assumption) (by simp only [wrap_i64] at *; omega))) ?_
                      conv => whnf
                      refine And.intro (by with_reducible rfl) ?_
                      conv => whnf
                      refine And.intro (by with_reducible rfl) ?_
                      conv => whnf
                      refine And.intro (by with_reducible rfl) ?_
                      conv => whnf
                      refine And.intro (by with_reducible rfl) ?_
                      conv => whnf
                      refine And.intro (by with_reducible rfl) ?_
                      conv => whnf
                      refine And.intro (by with_reducible rfl) ?_
                      conv => whnf
                      refine And.intro (by with_reducible rfl) ?_
                      conv => whnf
                      refine And.intro (by with_reducible rfl) ?_
                      conv => whnf
                      refine And.intro (by with_reducible rfl) ?_
                      conv => whnf
                      refine And.intro (by with_reducible rfl) ?_
                      conv => whnf
                      refine And.intro (by with_reducible rfl) ?_
                      conv => whnf
                      refine And.intro (by with_reducible rfl) ?_
                      conv => whnf
                      refine And.intro (by with_reducible rfl) ?_
                      conv => whnf
                      refine And.intro (by with_reducible rfl) ?_
                      conv => whnf
                      refine And.intro (by (simp only [wrap_i64, wrap_u64, wrap_u32, wrap_u16, wrap_u8, maxLen_eq, mmI] at *; omega)) ?_
                      exact True.intro
                  · simp only [Bool.not_eq_true', Bool.not_eq_false', Bool.and_eq_true, Bool.and_eq_false_imp, Bool.or_eq_true, Bool.or_eq_false_iff, Bool.and_true, Bool.true_and, Bool.not_true, Bool.not_false, decide_eq_true_eq, decide_eq_false_iff_not, Bool.decide_and] at hc5
                    conv => whnf
                    refine br_r rfl rfl ?_
                    conv => whnf
                    refine br_r rfl rfl ?_
                    conv => whnf
                    refine br_r rfl rfl ?_
                    conv => whnf
                    refine br_r rfl rfl ?_
                    conv => whnf
                    refine br_l rfl rfl ?_
                    conv => whnf
                    refine ihl1 (j + 1) _ ?_ ?_ (st_of ?_)
                    · (simp only [map_rows] at *; omega)
                    · (simp only [map_rows] at *; omega)
                    · conv => whnf
                      refine And.intro (by with_reducible rfl) ?_
                      conv => whnf
                      refine And.intro (by with_reducible rfl) ?_
                      conv => whnf
                      refine And.intro (by with_reducible rfl) ?_
                      conv => whnf
                      refine And.intro (by with_reducible rfl) ?_
                      conv => whnf
                      refine And.intro (by with_reducible rfl) ?_
                      conv => whnf
                      refine And.intro (by (exact any_t hx (by assumption))) ?_
                      conv => whnf
                      refine And.intro (by with_reducible rfl) ?_
                      conv => whnf
                      refine And.intro (by with_reducible rfl) ?_
                      conv => whnf
                      refine And.intro (by with_reducible rfl) ?_
                      conv => whnf
                      refine And.intro (by with_reducible rfl) ?_
                      conv => whnf
                      refine And.intro (by with_reducible rfl) ?_
                      conv => whnf
                      refine And.intro (by with_reducible rfl) ?_
                      conv => whnf
                      refine And.intro (by with_reducible rfl) ?_
                      conv => whnf
                      refine And.intro (by with_reducible rfl) ?_
                      conv => whnf
                      refine And.intro (by with_reducible rfl) ?_
                      conv => whnf
                      refine And.intro (by with_reducible rfl) ?_
                      conv => whnf
                      refine And.intro (by with_reducible rfl) ?_
                      conv => whnf
                      refine And.intro (by with_reducible rfl) ?_
                      conv => whnf
                      refine And.intro (by with_reducible rfl) ?_
                      conv => whnf
                      refine And.intro (by with_reducible rfl) ?_
                      conv => whnf
                      refine And.intro (by (simp only [wrap_i64, wrap_u64, wrap_u32, wrap_u16, wrap_u8, maxLen_eq, mmI] at *; omega)) ?_
                      exact True.intro
              · replace hc3 := of_decide_eq_false hc3
                conv => whnf
                refine And.intro (fun hc6 => ?_) (fun hc6 => ?_)
                · simp only [Bool.not_eq_true', Bool.not_eq_false', Bool.and_eq_true, Bool.and_eq_false_imp, Bool.or_eq_true, Bool.or_eq_false_iff, Bool.and_true, Bool.true_and, Bool.not_true, Bool.not_false, decide_eq_true_eq, decide_eq_false_iff_not, Bool.decide_and] at hc6
                  conv => whnf
                  refine br_l rfl rfl ?_
                  conv => whnf
                  refine br_l rfl rfl ?_
                  conv => whnf
                  refine br_l rfl rfl ?_
                  conv => whnf
                  refine br_l rfl rfl ?_
                  conv => whnf
                  refine ⟨_, (past_good l) _ ?_, ?_⟩
                  · assumption
                  · conv => whnf
                    refine br_l rfl rfl ?_
                    conv => whnf
                    refine br_l rfl rfl ?_
                    conv => whnf
                    refine And.intro (fun hc7 => ?_) (fun hc7 => ?_)
                    · simp only [Bool.not_eq_true', Bool.not_eq_false', Bool.and_eq_true, Bool.and_eq_false_imp, Bool.or_eq_true, Bool.or_eq_false_iff, Bool.and_true, Bool.true_and, Bool.not_true, Bool.not_false, decide_eq_true_eq, decide_eq_false_iff_not, Bool.decide_and] at hc7
                      conv => whnf
                      refine And.intro (by (simp; done)) ?_
                      refine And.intro (by (have := ms_len n l k; simp only [map_rows, maxLen_eq, List.length_cons, List.length_nil] at *; omega)) ?_
                      refine And.intro (by (have := ms_len n l k; simp only [map_rows, maxLen_eq, List.length_cons, List.length_nil] at *; omega)) ?_
                      conv => whnf
                      refine ihl0 (k + 1) _ ?_ ?_ (st_of ?_)
                      · omega
                      · omega
                      · conv => whnf
                        refine And.intro (by with_reducible rfl) ?_
                        conv => whnf
                        refine And.intro (by with_reducible rfl) ?_
                        conv => whnf
                        refine And.intro (by with_reducible rfl) ?_
                        conv => whnf
                        refine And.intro (by (exact ms_add' (by assumption) (by simp only [map_rows] at *; omega) (by assumption) hn (by simp only [wrap_i64] at *; omega) (by simp only [wrap_i64] at *; omega))) ?_
                        conv => whnf
                        refine And.intro (by (simp only [wrap_i64, wrap_u64, wrap_u32, wrap_u16, wrap_u8, maxLen_eq, mmI] at *; omega)) ?_
                        exact True.intro
                    · simp only [Bool.not_eq_true', Bool.not_eq_false', Bool.and_eq_true, Bool.and_eq_false_imp, Bool.or_eq_true, Bool.or_eq_false_iff, Bool.and_true, Bool.true_and, Bool.not_true, Bool.not_false, decide_eq_true_eq, decide_eq_false_iff_not, Bool.decide_and] at hc7
                      conv => whnf
                      refine ihl0 (k + 1) _ ?_ ?_ (st_of ?_)
                      · omega
                      · omega
                      · conv => whnf
                        refine And.intro (by with_reducible rfl) ?_
                        conv => whnf
                        refine And.intro (by with_reducible rfl) ?_
                        conv => whnf
                        refine And.intro (by with_reducible rfl) ?_
                        conv => whnf
                        refine And.intro (by (exact ms_past (by assumption) hn (by simp only [wrap_i64] at *; omega) (by simp only [wrap_i64] at *; omega))) ?_
                        conv => whnf
                        refine And.intro (by (simp only [wrap_i64, wrap_u64, wrap_u32, wrap_u16, wrap_u8, maxLen_eq, mmI] at *; omega)) ?_
                        exact True.intro
                · simp only [Bool.not_eq_true', Bool.not_eq_false', Bool.and_eq_true, Bool.and_eq_false_imp, Bool.or_eq_true, Bool.or_eq_false_iff, Bool.and_true, Bool.true_and, Bool.not_true, Bool.not_false, decide_eq_true_eq, decide_eq_false_iff_not, Bool.decide_and] at hc6
                  conv => whnf
                  refine br_r rfl rfl ?_
                  conv => whnf
                  refine br_r rfl rfl ?_
                  conv => whnf
                  refine br_r rfl rfl ?_
                  conv => whnf
                  refine br_r rfl rfl ?_
                  conv => whnf
                  refine br_r rfl rfl ?_
                  conv => whnf
                  refine br_r rfl rfl ?_
                  conv => whnf
                  refine br_r rfl rfl ?_
                  conv => whnf
                  refine ihl0 (k + 1) _ ?_ ?_ (st_of ?_)
                  · omega
                  · omega
                  · conv => whnf
                    refine And.intro (by with_reducible rfl) ?_
                    conv => whnf
                    refine And.intro (by with_reducible rfl) ?_
                    conv => whnf
                    refine And.intro (by with_reducible rfl) ?_
                    conv => whnf
                    refine And.intro (by (exact ms_in (by assumption) (by simp only [map_rows] at *; omega) hn (by simp only [wrap_i64] at *; omega))) ?_
                    conv => whnf
                    refine And.intro (by (simp only [wrap_i64, wrap_u64, wrap_u32, wrap_u16, wrap_u8, maxLen_eq, mmI] at *; omega)) ?_
                    exact True.intro
        · replace hc1 := of_decide_eq_false (Bool.not_eq_true' _ |>.mp hc1)
          contradiction
      · replace hc0 := of_decide_eq_false hc0
        conv => whnf
        refine AV.of_eqv ?_
        conv => whnf
        refine And.intro (by (rw [show k = 8 by omega])) ?_
        exact True.intro
  · rw [show missI n l = [] from if_neg hn]
    apply good_at ak76 rfl rfl rfl
    conv => whnf
    refine loop_at (α := Nat) [] (fun k => [(10, .int .i64 (k : Int)), (5, .sl .own 1 [])]) (fun k => []) (fun k => k ≤ 8) (fun k => 8 - k) (0) (st_of ?_) ?_ (by rintro k _; rfl) ?_
    · conv => whnf
      refine And.intro (by with_reducible rfl) ?_
      conv => whnf
      refine And.intro (by with_reducible rfl) ?_
      conv => whnf
      refine And.intro (by with_reducible rfl) ?_
      conv => whnf
      refine And.intro (by with_reducible rfl) ?_
      conv => whnf
      refine And.intro (by decide) ?_
      exact True.intro
    · decide
    · rintro k nextl0 hIl0 ihl0
      try dsimp only at hIl0
      conv => whnf
      refine And.intro (fun hc0 => ?_) (fun hc0 => ?_)
      · replace hc0 := of_decide_eq_true hc0
        conv => whnf
        refine ⟨_, rsright_good _, ?_⟩
        conv => whnf
        refine And.intro (fun hc1 => ?_) (fun hc1 => ?_)
        · replace hc1 := of_decide_eq_true (Bool.not_eq_false' _ |>.mp hc1)
          contradiction
        · replace hc1 := of_decide_eq_false (Bool.not_eq_true' _ |>.mp hc1)
          conv => whnf
          refine br_r rfl rfl ?_
          conv => whnf
          refine br_r rfl rfl ?_
          conv => whnf
          refine br_r rfl rfl ?_
          conv => whnf
          refine br_l rfl rfl ?_
          conv => whnf
          refine br_l rfl rfl ?_
          conv => whnf
          refine AV.of_eqv ?_
          conv => whnf
          refine And.intro (by decide) ?_
          exact True.intro
      · replace hc0 := of_decide_eq_false hc0
        conv => whnf
        refine AV.of_eqv ?_
        conv => whnf
        refine And.intro (by decide) ?_
        exact True.intro
theorem wgaps_good (n : Int) (l : List Qt) (hl : l.length ≤ 1000000) : Good Try.prog 66 [eV n l] (.sl .own 1 ((missI n (l.map qs)).map i1)) := by
  have h := missing_good n (l.map qs) (by rw [List.length_map]; exact hl)
  rw [List.map_map] at h
  apply good_at ak66 rfl rfl rfl
  conv => whnf
  refine And.intro (by exact rfl) ?_
  conv => whnf
  refine ⟨_, (seqs_good n l) ?_, ?_⟩
  · assumption
  · conv => whnf
    refine ⟨_, h, ?_⟩
    conv => whnf
    refine AV.of_eqv ?_
    conv => whnf
    refine And.intro (by with_reducible rfl) ?_
    exact True.intro
theorem wgaps_pn (n : Int) (l : List Int) (hl : l.length ≤ 1000000) : Good Try.prog 66 [eW n l] (.sl .own 1 ((missI n l).map i1)) := by
  apply good_at ak66 rfl rfl rfl
  conv => whnf
  refine And.intro (by exact rfl) ?_
  conv => whnf
  refine ⟨_, (seqs_pn n l) ?_, ?_⟩
  · assumption
  · conv => whnf
    refine ⟨_, (missing_good n l) ?_, ?_⟩
    · assumption
    · conv => whnf
      refine AV.of_eqv ?_
      conv => whnf
      refine And.intro (by with_reducible rfl) ?_
      exact True.intro
theorem rwgaps_good (n : Int) (l : List Qt) (hl : l.length ≤ 1000000) : Good Try.prog 67 [eV n l] (.sl .own 1 ((missI n (l.map qs)).map i1)) := by
  have h := rmissing_good n (l.map qs) (by rw [List.length_map]; exact hl)
  rw [List.map_map] at h
  have hr : ∀ {i : Nat}, ¬ i < l.length → Good Try.prog 76 [.int .i64 n, .sl .sh 1 ((l.take i).map fun x => i1 (qs x))] (.sl .own 1 ((missI n (l.map qs)).map i1)) := fun hi => by rw [take_end hi]; exact h
  apply good_at ak67 rfl rfl rfl
  conv => whnf
  refine loop_at (α := Nat) [] (fun i => [(9, .int .i64 (i : Int)), (3, .sl .own 1 ((l.take i).map fun x => i1 (qs x)))]) (fun i => []) (fun i => i ≤ l.length) (fun i => l.length - i) (0) (st_of ?_) ?_ (by rintro i _; rfl) ?_
  · conv => whnf
    refine And.intro (by with_reducible rfl) ?_
    conv => whnf
    refine And.intro (by with_reducible rfl) ?_
    conv => whnf
    refine And.intro (by with_reducible rfl) ?_
    refine And.intro (by with_reducible rfl) ?_
    conv => whnf
    refine And.intro (by with_reducible rfl) ?_
    conv => whnf
    refine And.intro (by (simp; done)) ?_
    conv => whnf
    refine And.intro (by with_reducible rfl) ?_
    refine And.intro (by with_reducible rfl) ?_
    conv => whnf
    refine And.intro (by with_reducible rfl) ?_
    conv => whnf
    refine And.intro (by with_reducible rfl) ?_
    conv => whnf
    refine And.intro (by decide) ?_
    conv => whnf
    refine And.intro (by with_reducible rfl) ?_
    conv => whnf
    refine And.intro (by with_reducible rfl) ?_
    exact True.intro
  · omega
  · rintro i nextl0 hIl0 ihl0
    try dsimp only at hIl0
    conv => whnf
    refine And.intro (fun hc0 => ?_) (fun hc0 => ?_)
    · replace hc0 := of_decide_eq_true hc0
      conv => whnf
      refine And.intro (by omega) ?_
      refine ex_row (l := l) ?_ fun x hx => ?_
      · (simp only [map_rows, maxLen_eq, List.length_map, List.length_take, List.length_cons, List.length_nil] at *; omega)
      · simp only [toNat_ofNat] at hx
        conv => whnf
        refine And.intro (by (simp; done)) ?_
        refine And.intro (by (simp only [map_rows, maxLen_eq, List.length_map, List.length_take, List.length_cons, List.length_nil] at *; omega)) ?_
        refine And.intro (by (simp only [map_rows, maxLen_eq, List.length_map, List.length_take, List.length_cons, List.length_nil] at *; omega)) ?_
        conv => whnf
        refine ihl0 (i + 1) _ ?_ ?_ (st_of ?_)
        · (simp only [map_rows, maxLen_eq, List.length_map, List.length_take, List.length_cons, List.length_nil] at *; omega)
        · (simp only [map_rows, maxLen_eq, List.length_map, List.length_take, List.length_cons, List.length_nil] at *; omega)
        · conv => whnf
          refine And.intro (by with_reducible rfl) ?_
          conv => whnf
          refine And.intro (by with_reducible rfl) ?_
          conv => whnf
          refine And.intro (by with_reducible rfl) ?_
          refine And.intro (by with_reducible rfl) ?_
          conv => whnf
          refine And.intro (by with_reducible rfl) ?_
          conv => whnf
          refine And.intro (by (rw [map_at _ hx]; rfl)) ?_
          conv => whnf
          refine And.intro (by with_reducible rfl) ?_
          refine And.intro (by with_reducible rfl) ?_
          conv => whnf
          refine And.intro (by with_reducible rfl) ?_
          conv => whnf
          refine And.intro (by with_reducible rfl) ?_
          conv => whnf
          refine And.intro (by (simp only [wrap_i64, wrap_u64, wrap_u32, wrap_u16, wrap_u8, maxLen_eq, mmI] at *; omega)) ?_
          conv => whnf
          refine And.intro (by with_reducible rfl) ?_
          conv => whnf
          refine And.intro (by with_reducible rfl) ?_
          exact True.intro
    · replace hc0 := of_decide_eq_false hc0
      conv => whnf
      refine ⟨_, hr ?_, ?_⟩
      · (simp only [map_rows, maxLen_eq, List.length_map, List.length_take, List.length_cons, List.length_nil] at *; omega)
      · conv => whnf
        refine AV.of_eqv ?_
        conv => whnf
        refine And.intro (by with_reducible rfl) ?_
        exact True.intro
def longL (l : List Qt) : Bool := (l.any fun x => decide (100 < x.2.2.2.2.2.2.2.length)) || decide (60 < l.length)
theorem lg_yes {l : List Qt} {i : Nat} {x : Qt} (hx : l[i]? = some x) (h : 100 < x.2.2.2.2.2.2.2.length) : true = longL l := by
  unfold longL; rw [List.any_eq_true.2 ⟨x, List.mem_of_getElem? hx, decide_eq_true h⟩]; rfl
theorem lg_step {l : List Qt} {i : Nat} {x : Qt} (h0 : ((l.take i).any fun x => decide (100 < x.2.2.2.2.2.2.2.length)) = false) (hx : l[i]? = some x) (h : ¬ 100 < x.2.2.2.2.2.2.2.length) : ((l.take (i + 1)).any fun x => decide (100 < x.2.2.2.2.2.2.2.length)) = false := by
  rw [take_at hx, List.any_append, h0, List.any_cons, List.any_nil, decide_eq_false h]; rfl
theorem lg_end {l : List Qt} {i : Nat} {m : Nat} (h0 : ((l.take i).any fun x => decide (100 < x.2.2.2.2.2.2.2.length)) = false) (hi : ¬ i < l.length) (hm : m = (l.map qt).length) : decide (60 < (m : Int)) = longL l := by
  rw [take_end hi] at h0
  unfold longL
  rw [h0, Bool.false_or, hm, map_rows]
  exact decide_eq_decide.2 (by omega)
theorem long16_good (l : List Qt) (hl : l.length ≤ 9223372036854775807) : Good Try.prog 65 [.sl .sh 8 (l.map qt)] (.bool (longL l)) := by
  apply good_at ak65 rfl rfl rfl
  conv => whnf
  refine loop_at (α := Nat) [] (fun i => [(7, .int .i64 (i : Int))]) (fun i => []) (fun i => i ≤ l.length ∧ ((l.take i).any fun x => decide (100 < x.2.2.2.2.2.2.2.length)) = false) (fun i => l.length - i) (0) (st_of ?_) ?_ (by rintro i _; rfl) ?_
  · conv => whnf
    refine And.intro (by with_reducible rfl) ?_
    conv => whnf
    refine And.intro (by with_reducible rfl) ?_
    conv => whnf
    refine And.intro (by with_reducible rfl) ?_
    conv => whnf
    refine And.intro (by decide) ?_
    exact True.intro
  · (exact ⟨Nat.zero_le _, rfl⟩)
  · rintro i nextl0 hIl0 ihl0
    try dsimp only at hIl0
    conv => whnf
    refine And.intro (fun hc0 => ?_) (fun hc0 => ?_)
    · replace hc0 := of_decide_eq_true hc0
      conv => whnf
      refine And.intro (by omega) ?_
      refine ex_row (l := l) ?_ fun x hx => ?_
      · (simp only [map_rows] at *; omega)
      · simp only [toNat_ofNat] at hx
        conv => whnf
        refine ⟨_, long8_good _ _ _ _ _ _ _ _, ?_⟩
        conv => whnf
        refine And.intro (fun hc2 => ?_) (fun hc2 => ?_)
        · replace hc2 := of_decide_eq_true hc2
          conv => whnf
          refine AV.of_eqv ?_
          conv => whnf
          refine And.intro (by (exact lg_yes hx (by assumption))) ?_
          exact True.intro
        · replace hc2 := of_decide_eq_false hc2
          conv => whnf
          refine ihl0 (i + 1) _ ?_ ?_ (st_of ?_)
          · (have := lt_at hx; exact ⟨by omega, lg_step hIl0.2 hx (by assumption)⟩)
          · (simp only [map_rows] at *; omega)
          · conv => whnf
            refine And.intro (by with_reducible rfl) ?_
            conv => whnf
            refine And.intro (by with_reducible rfl) ?_
            conv => whnf
            refine And.intro (by with_reducible rfl) ?_
            conv => whnf
            refine And.intro (by (have := lt_at hx; rw [wrap_i64]; omega)) ?_
            exact True.intro
    · replace hc0 := of_decide_eq_false hc0
      conv => whnf
      refine AV.of_eqv ?_
      conv => whnf
      refine And.intro (by (exact lg_end hIl0.2 (by simp only [map_rows] at *; omega) rfl)) ?_
      exact True.intro
end Go.Proofs.Ytkcdeefnkbbacaa

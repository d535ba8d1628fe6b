/- The law TimerRuns: what many ticks leave, and its contract. -/
import Derived.Test.YtmchbkmenokkdaaS13
set_option maxRecDepth 100000
namespace Go.Proofs.Ytmchbkmenokkdaa
open Go.RowKit
set_option maxHeartbeats 4000000
theorem nx_fold : ∀ (l : List Al) (n : Int), 1 ≤ n → l.foldl nxE n ≤ n ∧ (∀ x ∈ l, l.foldl nxE n ≤ max 1 x.2.2) ∧ (l.foldl nxE n = n ∨ ∃ x ∈ l, l.foldl nxE n = max 1 x.2.2)
  | [], n, _ => ⟨Int.le_refl _, by simp, .inl rfl⟩
  | x :: l, n, h => by
    have h1 : 1 ≤ nxE n x := by unfold nxE; split <;> omega
    obtain ⟨h2, h3, h4⟩ := nx_fold l (nxE n x) h1
    have h5 : nxE n x ≤ n ∧ nxE n x ≤ max 1 x.2.2 ∧ (nxE n x = n ∨ nxE n x = max 1 x.2.2) := by unfold nxE; split <;> omega
    refine ⟨?_, ?_, ?_⟩
    · show l.foldl nxE (nxE n x) ≤ n; omega
    · intro y hy
      show l.foldl nxE (nxE n x) ≤ _
      rcases List.mem_cons.1 hy with rfl | hy
      · omega
      · exact h3 y hy
    · show l.foldl nxE (nxE n x) = n ∨ _
      rcases h4 with h4 | ⟨y, hy, h4⟩
      · rcases h5.2.2 with h6 | h6
        · exact .inl (by omega)
        · exact .inr ⟨x, by simp, by show l.foldl nxE (nxE n x) = _; omega⟩
      · exact .inr ⟨y, by simp [hy], h4⟩
theorem nx_min (l : List Al) (h : l ≠ []) : (∀ x ∈ l, nx l ≤ max 1 x.2.2) ∧ ∃ x ∈ l, nx l = max 1 x.2.2 := by
  cases l with
  | nil => exact absurd rfl h
  | cons x l =>
    have h0 : nxE 0 x = max 1 x.2.2 := by unfold nxE; rw [if_pos (.inl rfl)]
    have h1 := nx_fold l (max 1 x.2.2) (by omega)
    have h2 : nx (x :: l) = l.foldl nxE (max 1 x.2.2) := by show l.foldl nxE (nxE 0 x) = _; rw [h0]
    rw [h2]
    refine ⟨fun y hy => ?_, ?_⟩
    · rcases List.mem_cons.1 hy with rfl | hy
      · exact h1.1
      · exact h1.2.1 y hy
    · rcases h1.2.2 with h3 | ⟨y, hy, h3⟩
      · exact ⟨x, by simp, h3⟩
      · exact ⟨y, by simp [hy], h3⟩
theorem fm_congr {α β : Type} {f g : α → Option β} : ∀ {l : List α}, (∀ x ∈ l, f x = g x) → l.filterMap f = l.filterMap g
  | [], _ => rfl
  | x :: l, h => by
    rw [List.filterMap_cons, List.filterMap_cons, h x (by simp), fm_congr fun y hy => h y (by simp [hy])]
def decE (k : Nat) (x : Al) : Al := (x.1, x.2.1, x.2.2 - k)
theorem runT_below {l : List Al} (hw : ∀ x ∈ l, x.2.2 ≤ 9223372036854775807) (hn : ∀ x ∈ l, nx l ≤ max 1 x.2.2) : ∀ k : Nat, (k : Int) + 1 ≤ nx l → runT k l = (l.map (decE k), [])
  | 0, _ => by
    show (l, []) = (l.map (decE 0), [])
    have : decE 0 = id := by funext x; simp [decE]
    rw [this, List.map_id]
  | k + 1, h => by
    have ih := runT_below hw hn k (by omega)
    have e : runT (k + 1) l = ((runT k l).1.filterMap onE, (runT k l).2 ++ (runT k l).1.filterMap offE) := rfl
    rw [e, ih]
    have hon : (l.map (decE k)).filterMap onE = l.map (decE (k + 1)) := by
      rw [List.filterMap_map, ← List.filterMap_eq_map]
      apply fm_congr
      intro x hx
      have h1 := hw x hx
      have h2 := hn x hx
      show (if 1 < x.2.2 - (k : Int) then some (x.1, x.2.1, IntKind.i64.wrap (x.2.2 - (k : Int) - 1)) else none) = some (x.1, x.2.1, x.2.2 - ((k + 1 : Nat) : Int))
      rw [if_pos (by omega), wrap_i64]
      congr 3
      omega
    have hoff : (l.map (decE k)).filterMap offE = [] := by
      rw [List.filterMap_map, List.filterMap_eq_nil_iff]
      intro x hx
      have h2 := hn x hx
      show (if 1 < x.2.2 - (k : Int) then none else some (x.1, x.2.1, (0 : Int))) = none
      exact if_pos (by omega)
    rw [hon, hoff]
    rfl
theorem runT_none {l : List Al} (hw : ∀ x ∈ l, x.2.2 ≤ 9223372036854775807) (h1 : 1 ≤ nx l) (h2 : nx l ≤ 900) : (runT (min (IntKind.i64.wrap (nx l - 1)) 1000).toNat l).2 = [] := by
  have hne : l ≠ [] := by rintro rfl; simp [nx] at h1
  rw [wrap_i64, show (min ((nx l - 1 + 9223372036854775808) % 18446744073709551616 - 9223372036854775808) 1000).toNat = (nx l - 1).toNat by omega]
  rw [runT_below hw (nx_min l hne).1 _ (by omega)]
theorem runT_some {l : List Al} (hw : ∀ x ∈ l, x.2.2 ≤ 9223372036854775807) (h1 : 1 ≤ nx l) (h2 : nx l ≤ 900) : 0 < (runT (min (nx l) 1000).toNat l).2.length := by
  have hne : l ≠ [] := by rintro rfl; simp [nx] at h1
  obtain ⟨hmin, x, hx, he⟩ := nx_min l hne
  rw [show (min (nx l) 1000).toNat = (nx l - 1).toNat + 1 by omega]
  have e : ∀ k, runT (k + 1) l = ((runT k l).1.filterMap onE, (runT k l).2 ++ (runT k l).1.filterMap offE) := fun k => rfl
  rw [e, runT_below hw hmin _ (by omega)]
  apply List.length_pos_of_mem (a := (x.1, x.2.1, 0))
  refine List.mem_append_right _ (List.mem_filterMap.2 ⟨decE (nx l - 1).toNat x, List.mem_map.2 ⟨x, hx, rfl⟩, ?_⟩)
  show (if 1 < x.2.2 - ((nx l - 1).toNat : Int) then none else some (x.1, x.2.1, (0 : Int))) = _
  rw [if_neg (by omega)]
theorem nx_facts (l : List Al) : (l.length = 0 ∧ nx l = 0) ∨ (0 < l.length ∧ 1 ≤ nx l) := by
  by_cases h : l = []
  · exact .inl ⟨by rw [h]; rfl, by rw [h]; rfl⟩
  · exact .inr ⟨List.length_pos_iff.2 h, nx_pos l h⟩
theorem runs_leni (k : Nat) (l : List Al) : (((runT k l).1.map al).length : Int) + ((runT k l).2.map al).length = l.length := by
  have := runs_len k l
  simp only [List.length_map]
  omega
theorem timerRuns_good (l : List Al) (t n : Int) (hw : ∀ x ∈ l, x.2.2 ≤ 9223372036854775807) : Good Try.prog 6 [.sl .sh 3 (l.map al), .int .i64 t, .int .i64 n] (.bool true) := by
  apply good_at ak6 rfl rfl rfl
  conv => whnf
  refine And.intro (fun hc0 => ?_) (fun hc0 => ?_)
  · replace hc0 := of_decide_eq_true hc0
    conv => whnf
    refine ⟨_, awake13_good, ?_⟩
    conv => whnf
    refine AV.of_eqv ?_
    conv => whnf
    refine And.intro (by with_reducible rfl) ?_
    exact True.intro
  · replace hc0 := of_decide_eq_false hc0
    conv => whnf
    refine And.intro (by decide) ?_
    conv => whnf
    refine ⟨_, run_good _ _ ?_, ?_⟩
    · (simp only [map_rows] at *; omega)
    · conv => whnf
      refine ⟨_, rrun_good _ _ ?_, ?_⟩
      · (simp only [map_rows] at *; omega)
      · conv => whnf
        refine ⟨_, rsame_good _ _ ?_ ?_, ?_⟩
        · (refine Nat.le_trans (Nat.le_add_right _ _) (Nat.le_trans (Nat.le_of_eq (runs_len _ l)) ?_); simp only [map_rows] at *; omega)
        · (refine Nat.le_trans (Nat.le_add_right _ _) (Nat.le_trans (Nat.le_of_eq (runs_len _ l)) ?_); simp only [map_rows] at *; omega)
        · conv => whnf
          refine And.intro (fun hc1 => ?_) (fun hc1 => ?_)
          · replace hc1 := of_decide_eq_true (Bool.not_eq_false' _ |>.mp hc1)
            conv => whnf
            refine br_l rfl rfl ?_
            conv => whnf
            refine br_l rfl rfl ?_
            conv => whnf
            refine ⟨_, rsame_good _ _ ?_ ?_, ?_⟩
            · (refine Nat.le_trans (Nat.le_add_left _ _) (Nat.le_trans (Nat.le_of_eq (runs_len _ l)) ?_); simp only [map_rows] at *; omega)
            · (refine Nat.le_trans (Nat.le_add_left _ _) (Nat.le_trans (Nat.le_of_eq (runs_len _ l)) ?_); simp only [map_rows] at *; omega)
            · conv => whnf
              refine br_l rfl rfl ?_
              conv => whnf
              refine br_r rfl rfl ?_
              conv => whnf
              refine And.intro (fun hc2 => ?_) (fun hc2 => ?_)
              · replace hc2 := of_decide_eq_true (Bool.not_eq_false' _ |>.mp hc2)
                conv => whnf
                refine br_l rfl rfl ?_
                conv => whnf
                refine br_l rfl rfl ?_
                conv => whnf
                refine ⟨_, of_good _ _ ?_, ?_⟩
                · (simp only [map_rows] at *; omega)
                · conv => whnf
                  refine br_l rfl rfl ?_
                  conv => whnf
                  refine br_l rfl rfl ?_
                  conv => whnf
                  refine br_l rfl rfl ?_
                  conv => whnf
                  refine ⟨_, rof_good _ _ ?_, ?_⟩
                  · (simp only [map_rows] at *; omega)
                  · conv => whnf
                    refine br_l rfl rfl ?_
                    conv => whnf
                    refine ⟨_, rsame_good _ _ ?_ ?_, ?_⟩
                    · (refine Nat.le_trans (List.length_filter_le _ _) ?_; simp only [map_rows] at *; omega)
                    · (refine Nat.le_trans (List.length_filter_le _ _) ?_; simp only [map_rows] at *; omega)
                    · conv => whnf
                      refine br_l rfl rfl ?_
                      conv => whnf
                      refine br_r rfl rfl ?_
                      conv => whnf
                      refine And.intro (fun hc3 => ?_) (fun hc3 => ?_)
                      · replace hc3 := of_decide_eq_true (Bool.not_eq_false' _ |>.mp hc3)
                        conv => whnf
                        refine br_l rfl rfl ?_
                        conv => whnf
                        refine ⟨_, next_good _ ?_, ?_⟩
                        · (simp only [map_rows] at *; omega)
                        · conv => whnf
                          refine br_l rfl rfl ?_
                          conv => whnf
                          refine br_l rfl rfl ?_
                          conv => whnf
                          refine ⟨_, rnext_good _ ?_, ?_⟩
                          · (simp only [map_rows] at *; omega)
                          · conv => whnf
                            refine br_l rfl rfl ?_
                            conv => whnf
                            refine br_r rfl rfl ?_
                            conv => whnf
                            refine And.intro (fun hc4 => ?_) (fun hc4 => ?_)
                            · replace hc4 := of_decide_eq_true (Bool.not_eq_false' _ |>.mp hc4)
                              conv => whnf
                              refine br_l rfl rfl ?_
                              conv => whnf
                              refine br_l rfl rfl ?_
                              conv => whnf
                              refine br_l rfl rfl ?_
                              conv => whnf
                              refine br_l rfl rfl ?_
                              conv => whnf
                              refine br_l rfl rfl ?_
                              conv => whnf
                              refine br_l rfl rfl ?_
                              conv => whnf
                              refine br_l rfl rfl ?_
                              conv => whnf
                              refine br_r rfl rfl ?_
                              conv => whnf
                              refine And.intro (fun hc5 => ?_) (fun hc5 => ?_)
                              · replace hc5 := of_decide_eq_false (Bool.not_eq_true' _ |>.mp hc5)
                                (exfalso; simp only [runs_leni] at *; simp only [map_rows, wrap_i64] at *; omega)
                              · replace hc5 := of_decide_eq_true (Bool.not_eq_false' _ |>.mp hc5)
                                conv => whnf
                                refine ⟨_, next_good _ ?_, ?_⟩
                                · (simp only [map_rows] at *; omega)
                                · conv => whnf
                                  refine And.intro (fun hc6 => ?_) (fun hc6 => ?_)
                                  · replace hc6 := of_decide_eq_true hc6
                                    conv => whnf
                                    refine And.intro (fun hc7 => ?_) (fun hc7 => ?_)
                                    · replace hc7 := of_decide_eq_true hc7
                                      conv => whnf
                                      refine ⟨_, awake13_good, ?_⟩
                                      conv => whnf
                                      refine br_l rfl rfl ?_
                                      conv => whnf
                                      refine AV.of_eqv ?_
                                      conv => whnf
                                      refine And.intro (by with_reducible rfl) ?_
                                      exact True.intro
                                    · replace hc7 := of_decide_eq_false hc7
                                      (exfalso; have := nx_facts l; simp only [map_rows] at *; omega)
                                  · replace hc6 := of_decide_eq_false hc6
                                    conv => whnf
                                    refine And.intro (fun hc8 => ?_) (fun hc8 => ?_)
                                    · replace hc8 := of_decide_eq_false hc8
                                      conv => whnf
                                      refine br_l rfl rfl ?_
                                      conv => whnf
                                      refine br_r rfl rfl ?_
                                      conv => whnf
                                      refine And.intro (fun hc9 => ?_) (fun hc9 => ?_)
                                      · replace hc9 := of_decide_eq_true hc9
                                        conv => whnf
                                        refine And.intro (fun hc10 => ?_) (fun hc10 => ?_)
                                        · replace hc10 := of_decide_eq_true hc10
                                          conv => whnf
                                          refine ⟨_, awake13_good, ?_⟩
                                          conv => whnf
                                          refine br_l rfl rfl ?_
                                          conv => whnf
                                          refine AV.of_eqv ?_
                                          conv => whnf
                                          refine And.intro (by with_reducible rfl) ?_
                                          exact True.intro
                                        · replace hc10 := of_decide_eq_false hc10
                                          contradiction
                                      · replace hc9 := of_decide_eq_false hc9
                                        conv => whnf
                                        refine ⟨_, run_good _ _ ?_, ?_⟩
                                        · (simp only [map_rows] at *; omega)
                                        · conv => whnf
                                          refine ⟨_, run_good _ _ ?_, ?_⟩
                                          · (simp only [map_rows] at *; omega)
                                          · conv => whnf
                                            refine And.intro (fun hc11 => ?_) (fun hc11 => ?_)
                                            · replace hc11 := of_decide_eq_true hc11
                                              conv => whnf
                                              refine br_l rfl rfl ?_
                                              conv => whnf
                                              refine br_l rfl rfl ?_
                                              conv => whnf
                                              refine br_l rfl rfl ?_
                                              conv => whnf
                                              refine And.intro (fun hc12 => ?_) (fun hc12 => ?_)
                                              · replace hc12 := of_decide_eq_true hc12
                                                conv => whnf
                                                refine ⟨_, awake13_good, ?_⟩
                                                conv => whnf
                                                refine br_l rfl rfl ?_
                                                conv => whnf
                                                refine AV.of_eqv ?_
                                                conv => whnf
                                                refine And.intro (by with_reducible rfl) ?_
                                                exact True.intro
                                              · replace hc12 := of_decide_eq_false hc12
                                                (exfalso; have h1 := nx_facts l; have h2 := runT_some hw (by omega) (by omega); simp only [map_rows] at *; omega)
                                            · replace hc11 := of_decide_eq_false hc11
                                              (exfalso; have h1 := nx_facts l; have h2 := runT_none hw (by omega) (by omega); simp only [h2, List.map_nil, List.length_nil] at *; omega)
                                    · replace hc8 := of_decide_eq_true hc8
                                      (exfalso; have := nx_facts l; simp only [map_rows] at *; omega)
                            · replace hc4 := of_decide_eq_false (Bool.not_eq_true' _ |>.mp hc4)
                              contradiction
                      · replace hc3 := of_decide_eq_false (Bool.not_eq_true' _ |>.mp hc3)
                        contradiction
              · replace hc2 := of_decide_eq_false (Bool.not_eq_true' _ |>.mp hc2)
                contradiction
          · replace hc1 := of_decide_eq_false (Bool.not_eq_true' _ |>.mp hc1)
            contradiction
end Go.Proofs.Ytmchbkmenokkdaa

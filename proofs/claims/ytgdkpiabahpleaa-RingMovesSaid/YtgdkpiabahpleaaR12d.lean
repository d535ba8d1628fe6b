/- The law RingMoves. -/
import Derived.Test.YtgdkpiabahpleaaR12b
set_option maxRecDepth 100000
set_option linter.unusedSimpArgs false
set_option linter.unusedVariables false
namespace Go.Proofs.Ytgdkpiabahpleaa
open Go.RowKit
set_option maxHeartbeats 4000000
theorem ex_lm {l m : List By} {i : Nat} {K : List AV → Prop} (hi : i < l.length + m.length) (h : ∀ x, (l ++ m)[i]? = some x → K (sr x)) : ∃ c, ([] ++ l.map sr ++ m.map sr)[i]? = some c ∧ K c := by
  rw [List.nil_append, ← List.map_append]
  exact ex_row (by rw [List.length_append]; exact hi) h
theorem dd_nodup (l : List By) (i : Nat) : (dd (l.take i)).Nodup := by
  induction i with
  | zero => simp [dd]
  | succ i ih =>
    cases hx : l[i]? with
    | none => rw [List.take_add_one, hx]; simpa using ih
    | some x =>
      rw [dd_take hx]
      split
      · exact ih
      · rename_i h
        rw [List.nodup_append]
        exact ⟨ih, by simp, fun a ha b hb => by rw [List.mem_singleton.1 hb]; rintro rfl; exact h ha⟩
theorem dd_ne (l : List By) : (dd l).Nodup := by have := dd_nodup l l.length; rwa [List.take_length] at this
theorem fndR_at {s : By} : ∀ {l : List By} {i k : Nat}, l.Nodup → l[k]? = some s → fndR s i l = (i + k : Nat)
  | [], _, _, _, h => by simp at h
  | x :: r, i, 0, _, h => by
    simp at h
    unfold fndR
    rw [if_pos h.symm]; rfl
  | x :: r, i, k + 1, hn, h => by
    rw [List.nodup_cons] at hn
    simp only [List.getElem?_cons_succ] at h
    have hne : ¬ s = x := fun e => hn.1 (e ▸ List.mem_of_getElem? h)
    unfold fndR
    rw [if_neg hne, fndR_at hn.2 h]
    congr 1
    omega
theorem fnd_own {l : List By} {y : By} {k : Nat} (h : (dd l)[k]? = some y) : fnd (dd l) y = (k : Int) := by
  unfold fnd
  rw [fndR_at (dd_ne l) h, Nat.zero_add]
theorem fndR_mem {s : By} : ∀ {l : List By} {i : Nat}, s ∈ l → 0 ≤ fndR s i l
  | [], _, h => by simp at h
  | x :: r, i, h => by
    unfold fndR
    by_cases hx : s = x
    · rw [if_pos hx]; omega
    · rw [if_neg hx]
      exact fndR_mem (by simpa [hx] using h)
theorem fnd_there {l : List By} {y : By} {k : Nat} (h : (dd l)[k]? = some y) : ¬ fnd l y < 0 := by
  have h1 : y ∈ dd l := List.mem_of_getElem? h
  have h2 : y ∈ l := by
    have := (dd_mem l.length l y).1 (by rwa [List.take_length])
    rwa [List.take_length] at this
  have h3 : 0 ≤ fnd l y := fndR_mem h2
  omega
theorem mv_same {l m : List By} {n j : Nat} {x y : By} (hj : j < n) (hx : (m ++ l.take n)[m.length + j]? = some x) (hy : l[j]? = some y) : x = y := by
  rw [List.getElem?_append_right (by omega), show m.length + j - m.length = j by omega, List.getElem?_take_of_lt hj, hy] at hx
  exact (Option.some.inj hx).symm
theorem wr_j {l m : List By} {r1 r2 : Int} {j : Nat} (h1 : ¬ (60 : Int) < ((m.map sr).length : Nat)) (h0 : ¬ (60 : Int) < ((l.map sr).length : Nat)) (hj : j ≤ mv r1 l m r2) : IntKind.i64.wrap (((m.map sr).length : Nat) + (j : Int)) = ((m.length + j : Nat) : Int) := by
  have := mv_le r1 l m r2
  simp only [map_rows] at *
  rw [wrap_i64]
  omega
theorem mv_same' {l m : List By} {r1 r2 : Int} {j : Nat} {x y : By} (h1 : ¬ (60 : Int) < ((m.map sr).length : Nat)) (h0 : ¬ (60 : Int) < ((l.map sr).length : Nat)) (hj : (j : Int) < (mv r1 l m r2 : Nat)) (hx : (m ++ l.take (mv r1 l m r2))[(IntKind.i64.wrap (((m.map sr).length : Nat) + (j : Int))).toNat]? = some x) (hy : l[j]? = some y) : x = y := by
  rw [wr_j (r1 := r1) (r2 := r2) h1 h0 (by omega), Int.toNat_natCast] at hx
  have hj' : j < mv r1 l m r2 := by omega
  exact mv_same hj' hx hy
theorem ringMoves_good (l m : List By) (r0 r1 r2 : Int) (h0 : r0 ≤ 9223372036854775807) (h1 : r1 ≤ 9223372036854775807) : Good Try.prog 3 [.sl .sh 1 (l.map sr), .sl .sh 1 (m.map sr), .agg [.int .i64 r0, .int .i64 r1, .int .i64 r2]] (.bool true) := by
  have hle := mv_le r1 l m r2
  apply good_at ak3 rfl rfl rfl
  conv => whnf
  refine And.intro (fun hc0 => ?_) (fun hc0 => ?_)
  · replace hc0 := of_decide_eq_false hc0
    conv => whnf
    refine br_l rfl rfl ?_
    conv => whnf
    refine br_l rfl rfl ?_
    conv => whnf
    refine br_r rfl rfl ?_
    conv => whnf
    refine And.intro (fun hc1 => ?_) (fun hc1 => ?_)
    · replace hc1 := of_decide_eq_true hc1
      conv => whnf
      refine ⟨_, awake12_good, ?_⟩
      conv => whnf
      refine AV.of_eqv ?_
      conv => whnf
      refine And.intro (by with_reducible rfl) ?_
      exact True.intro
    · replace hc1 := of_decide_eq_false hc1
      conv => whnf
      refine And.intro (by (simp; done)) ?_
      refine And.intro (by (simp only [map_rows, List.length_append, List.length_nil, List.length_drop, List.length_take, maxLen_eq] at *; omega)) ?_
      refine And.intro (by (simp only [map_rows, List.length_append, List.length_nil, List.length_drop, List.length_take, maxLen_eq] at *; omega)) ?_
      conv => whnf
      refine And.intro (by (simp; done)) ?_
      refine And.intro (by (simp only [map_rows, List.length_append, List.length_nil, List.length_drop, List.length_take, maxLen_eq] at *; omega)) ?_
      refine And.intro (by (simp only [map_rows, List.length_append, List.length_nil, List.length_drop, List.length_take, maxLen_eq] at *; omega)) ?_
      conv => whnf
      refine loop_at (α := Nat) [] (fun i => [(43, .int .i64 (i : Int))]) (fun i => []) (fun i => i ≤ l.length + m.length) (fun i => l.length + m.length - i) (0) (st_of ?_) ?_ (by rintro i _; rfl) ?_
      · conv => whnf
        refine And.intro (by with_reducible rfl) ?_
        conv => whnf
        refine And.intro (by with_reducible rfl) ?_
        conv => whnf
        refine And.intro (by with_reducible rfl) ?_
        refine And.intro (by with_reducible rfl) ?_
        conv => whnf
        refine And.intro (by with_reducible rfl) ?_
        conv => whnf
        refine And.intro (by with_reducible rfl) ?_
        conv => whnf
        refine And.intro (by decide) ?_
        conv => whnf
        refine And.intro (by with_reducible rfl) ?_
        conv => whnf
        refine And.intro (by with_reducible rfl) ?_
        conv => whnf
        refine And.intro (by with_reducible rfl) ?_
        exact True.intro
      · omega
      · rintro i nextl0 hIl0 ihl0
        try dsimp only at hIl0
        conv => whnf
        refine And.intro (fun hc2 => ?_) (fun hc2 => ?_)
        · replace hc2 := of_decide_eq_true hc2
          conv => whnf
          refine And.intro (by omega) ?_
          refine ex_lm ?_ fun x hx => ?_
          · (clear ihl0; have := dd_all (l := l) (by simp only [map_rows] at *; omega); simp only [map_rows, List.length_append, List.length_nil, List.length_drop, List.length_take, maxLen_eq, wrap_i64] at *; omega)
          · simp only [toNat_ofNat] at hx
            conv => whnf
            refine And.intro (fun hc4 => ?_) (fun hc4 => ?_)
            · replace hc4 := of_decide_eq_true hc4
              conv => whnf
              refine ⟨_, awake12_good, ?_⟩
              conv => whnf
              refine AV.of_eqv ?_
              conv => whnf
              refine And.intro (by with_reducible rfl) ?_
              exact True.intro
            · replace hc4 := of_decide_eq_false hc4
              conv => whnf
              refine ihl0 (i + 1) _ ?_ ?_ (st_of ?_)
              · (clear ihl0; have := dd_all (l := l) (by simp only [map_rows] at *; omega); simp only [map_rows, List.length_append, List.length_nil, List.length_drop, List.length_take, maxLen_eq, wrap_i64] at *; omega)
              · (clear ihl0; have := dd_all (l := l) (by simp only [map_rows] at *; omega); simp only [map_rows, List.length_append, List.length_nil, List.length_drop, List.length_take, maxLen_eq, wrap_i64] at *; omega)
              · conv => whnf
                refine And.intro (by with_reducible rfl) ?_
                conv => whnf
                refine And.intro (by with_reducible rfl) ?_
                conv => whnf
                refine And.intro (by with_reducible rfl) ?_
                refine And.intro (by with_reducible rfl) ?_
                conv => whnf
                refine And.intro (by with_reducible rfl) ?_
                conv => whnf
                refine And.intro (by with_reducible rfl) ?_
                conv => whnf
                refine And.intro (by (clear ihl0; have := dd_all (l := l) (by simp only [map_rows] at *; omega); simp only [map_rows, List.length_append, List.length_nil, List.length_drop, List.length_take, maxLen_eq, wrap_i64] at *; omega)) ?_
                conv => whnf
                refine And.intro (by with_reducible rfl) ?_
                conv => whnf
                refine And.intro (by with_reducible rfl) ?_
                conv => whnf
                refine And.intro (by with_reducible rfl) ?_
                exact True.intro
        · replace hc2 := of_decide_eq_false hc2
          conv => whnf
          refine And.intro (by exact rfl) ?_
          conv => whnf
          refine And.intro (by decide) ?_
          refine And.intro (by decide) ?_
          conv => whnf
          refine And.intro (by decide) ?_
          refine And.intro (by decide) ?_
          conv => whnf
          refine And.intro (by decide) ?_
          refine And.intro (by decide) ?_
          conv => whnf
          refine ⟨_, (peek_good _ _ _), ?_⟩
          conv => whnf
          refine And.intro (by decide) ?_
          refine And.intro (by decide) ?_
          conv => whnf
          refine ⟨_, (rpeek_good _ _ _), ?_⟩
          conv => whnf
          refine ⟨_, (only_good _ _) ?_, ?_⟩
          · (clear ihl0; have := dd_all (l := l) (by simp only [map_rows] at *; omega); simp only [map_rows, List.length_append, List.length_nil, List.length_drop, List.length_take, maxLen_eq, wrap_i64] at *; omega)
          · conv => whnf
            refine ⟨_, (ronly_good _ _) ?_, ?_⟩
            · (clear ihl0; have := dd_all (l := l) (by simp only [map_rows] at *; omega); simp only [map_rows, List.length_append, List.length_nil, List.length_drop, List.length_take, maxLen_eq, wrap_i64] at *; omega)
            · conv => whnf
              refine And.intro (by decide) ?_
              refine And.intro (by decide) ?_
              conv => whnf
              refine ⟨_, (move_good _ _ _ _ _) ?_ ?_ ?_, ?_⟩
              · assumption
              · (clear ihl0; have := dd_all (l := l) (by simp only [map_rows] at *; omega); simp only [map_rows, List.length_append, List.length_nil, List.length_drop, List.length_take, maxLen_eq, wrap_i64] at *; omega)
              · (clear ihl0; have := dd_all (l := l) (by simp only [map_rows] at *; omega); simp only [map_rows, List.length_append, List.length_nil, List.length_drop, List.length_take, maxLen_eq, wrap_i64] at *; omega)
              · conv => whnf
                refine And.intro (by decide) ?_
                refine And.intro (by decide) ?_
                conv => whnf
                refine ⟨_, (rmove_good _ _ _ _ _) ?_ ?_, ?_⟩
                · (clear ihl0; have := dd_all (l := l) (by simp only [map_rows] at *; omega); simp only [map_rows, List.length_append, List.length_nil, List.length_drop, List.length_take, maxLen_eq, wrap_i64] at *; omega)
                · (clear ihl0; have := dd_all (l := l) (by simp only [map_rows] at *; omega); simp only [map_rows, List.length_append, List.length_nil, List.length_drop, List.length_take, maxLen_eq, wrap_i64] at *; omega)
                · conv => whnf
                  refine And.intro (by exact rfl) ?_
                  conv => whnf
                  refine And.intro (fun hc5 => ?_) (fun hc5 => ?_)
                  · replace hc5 := of_decide_eq_true (Bool.not_eq_false' _ |>.mp hc5)
                    conv => whnf
                    refine br_l rfl rfl ?_
                    conv => whnf
                    refine br_l rfl rfl ?_
                    conv => whnf
                    refine br_r rfl rfl ?_
                    conv => whnf
                    refine And.intro (fun hc6 => ?_) (fun hc6 => ?_)
                    · replace hc6 := of_decide_eq_true (Bool.not_eq_false' _ |>.mp hc6)
                      conv => whnf
                      refine br_l rfl rfl ?_
                      conv => whnf
                      refine br_l rfl rfl ?_
                      conv => whnf
                      refine ⟨_, (rsame_good _ _ _ _) ?_ ?_, ?_⟩
                      · (clear ihl0; have := dd_all (l := l) (by simp only [map_rows] at *; omega); simp only [map_rows, List.length_append, List.length_nil, List.length_drop, List.length_take, maxLen_eq, wrap_i64] at *; omega)
                      · (clear ihl0; have := dd_all (l := l) (by simp only [map_rows] at *; omega); simp only [map_rows, List.length_append, List.length_nil, List.length_drop, List.length_take, maxLen_eq, wrap_i64] at *; omega)
                      · conv => whnf
                        refine br_l rfl rfl ?_
                        conv => whnf
                        refine br_r rfl rfl ?_
                        conv => whnf
                        refine And.intro (fun hc7 => ?_) (fun hc7 => ?_)
                        · replace hc7 := of_decide_eq_true (Bool.not_eq_false' _ |>.mp hc7)
                          conv => whnf
                          refine br_l rfl rfl ?_
                          conv => whnf
                          refine br_l rfl rfl ?_
                          conv => whnf
                          refine br_r rfl rfl ?_
                          conv => whnf
                          refine And.intro (fun hc8 => ?_) (fun hc8 => ?_)
                          · replace hc8 := of_decide_eq_true (Bool.not_eq_false' _ |>.mp hc8)
                            conv => whnf
                            refine br_l rfl rfl ?_
                            conv => whnf
                            refine br_l rfl rfl ?_
                            conv => whnf
                            refine ⟨_, (rsame_good _ _ _ _) ?_ ?_, ?_⟩
                            · (clear ihl0; have := dd_all (l := l) (by simp only [map_rows] at *; omega); simp only [map_rows, List.length_append, List.length_nil, List.length_drop, List.length_take, maxLen_eq, wrap_i64] at *; omega)
                            · (clear ihl0; have := dd_all (l := l) (by simp only [map_rows] at *; omega); simp only [map_rows, List.length_append, List.length_nil, List.length_drop, List.length_take, maxLen_eq, wrap_i64] at *; omega)
                            · conv => whnf
                              refine br_l rfl rfl ?_
                              conv => whnf
                              refine br_r rfl rfl ?_
                              conv => whnf
                              refine And.intro (fun hc9 => ?_) (fun hc9 => ?_)
                              · replace hc9 := of_decide_eq_true (Bool.not_eq_false' _ |>.mp hc9)
                                conv => whnf
                                refine br_l rfl rfl ?_
                                conv => whnf
                                refine br_l rfl rfl ?_
                                conv => whnf
                                refine ⟨_, (rsame_good _ _ _ _) ?_ ?_, ?_⟩
                                · (clear ihl0; have := dd_all (l := l) (by simp only [map_rows] at *; omega); simp only [map_rows, List.length_append, List.length_nil, List.length_drop, List.length_take, maxLen_eq, wrap_i64] at *; omega)
                                · (clear ihl0; have := dd_all (l := l) (by simp only [map_rows] at *; omega); simp only [map_rows, List.length_append, List.length_nil, List.length_drop, List.length_take, maxLen_eq, wrap_i64] at *; omega)
                                · conv => whnf
                                  refine br_l rfl rfl ?_
                                  conv => whnf
                                  refine br_r rfl rfl ?_
                                  conv => whnf
                                  refine And.intro (fun hc10 => ?_) (fun hc10 => ?_)
                                  · replace hc10 := of_decide_eq_true (Bool.not_eq_false' _ |>.mp hc10)
                                    conv => whnf
                                    refine br_l rfl rfl ?_
                                    conv => whnf
                                    refine br_l rfl rfl ?_
                                    conv => whnf
                                    refine br_r rfl rfl ?_
                                    conv => whnf
                                    refine And.intro (fun hc11 => ?_) (fun hc11 => ?_)
                                    · replace hc11 := of_decide_eq_true (Bool.not_eq_false' _ |>.mp hc11)
                                      conv => whnf
                                      refine br_l rfl rfl ?_
                                      conv => whnf
                                      refine br_l rfl rfl ?_
                                      conv => whnf
                                      refine ⟨_, (find_good _ _ _) ?_, ?_⟩
                                      · (clear ihl0; have := dd_all (l := l) (by simp only [map_rows] at *; omega); simp only [map_rows, List.length_append, List.length_nil, List.length_drop, List.length_take, maxLen_eq, wrap_i64] at *; omega)
                                      · conv => whnf
                                        refine br_l rfl rfl ?_
                                        conv => whnf
                                        refine br_l rfl rfl ?_
                                        conv => whnf
                                        refine br_l rfl rfl ?_
                                        conv => whnf
                                        refine ⟨_, (rfind_good _ _ _) ?_, ?_⟩
                                        · (clear ihl0; have := dd_all (l := l) (by simp only [map_rows] at *; omega); simp only [map_rows, List.length_append, List.length_nil, List.length_drop, List.length_take, maxLen_eq, wrap_i64] at *; omega)
                                        · conv => whnf
                                          refine br_l rfl rfl ?_
                                          conv => whnf
                                          refine br_r rfl rfl ?_
                                          conv => whnf
                                          refine And.intro (fun hc12 => ?_) (fun hc12 => ?_)
                                          · replace hc12 := of_decide_eq_false (Bool.not_eq_true' _ |>.mp hc12)
                                            contradiction
                                          · replace hc12 := of_decide_eq_true (Bool.not_eq_false' _ |>.mp hc12)
                                            conv => whnf
                                            refine And.intro (fun hc13 => ?_) (fun hc13 => ?_)
                                            · replace hc13 := of_decide_eq_true (Bool.not_eq_false' _ |>.mp hc13)
                                              conv => whnf
                                              refine br_l rfl rfl ?_
                                              conv => whnf
                                              refine br_l rfl rfl ?_
                                              conv => whnf
                                              refine br_l rfl rfl ?_
                                              conv => whnf
                                              refine br_l rfl rfl ?_
                                              conv => whnf
                                              refine br_l rfl rfl ?_
                                              conv => whnf
                                              refine br_l rfl rfl ?_
                                              conv => whnf
                                              refine br_l rfl rfl ?_
                                              conv => whnf
                                              refine br_r rfl rfl ?_
                                              conv => whnf
                                              refine And.intro (fun hc14 => ?_) (fun hc14 => ?_)
                                              · replace hc14 := of_decide_eq_false (Bool.not_eq_true' _ |>.mp hc14)
                                                (clear ihl0; exfalso; simp only [map_rows, List.length_append, List.length_drop, List.length_take, wrap_i64] at *; omega)
                                              · replace hc14 := of_decide_eq_true (Bool.not_eq_false' _ |>.mp hc14)
                                                conv => whnf
                                                refine loop_at (α := Nat) [] (fun j => [(166, .int .i64 (j : Int))]) (fun j => []) (fun j => j ≤ mv r1 l m r2) (fun j => mv r1 l m r2 - j) (0) (st_of ?_) ?_ (by rintro j _; rfl) ?_
                                                · conv => whnf
                                                  refine And.intro (by with_reducible rfl) ?_
                                                  conv => whnf
                                                  refine And.intro (by with_reducible rfl) ?_
                                                  conv => whnf
                                                  refine And.intro (by with_reducible rfl) ?_
                                                  refine And.intro (by with_reducible rfl) ?_
                                                  conv => whnf
                                                  refine And.intro (by with_reducible rfl) ?_
                                                  refine And.intro (by with_reducible rfl) ?_
                                                  conv => whnf
                                                  refine And.intro (by with_reducible rfl) ?_
                                                  refine And.intro (by with_reducible rfl) ?_
                                                  conv => whnf
                                                  refine And.intro (by with_reducible rfl) ?_
                                                  conv => whnf
                                                  refine And.intro (by decide) ?_
                                                  conv => whnf
                                                  refine And.intro (by with_reducible rfl) ?_
                                                  conv => whnf
                                                  refine And.intro (by with_reducible rfl) ?_
                                                  conv => whnf
                                                  refine And.intro (by with_reducible rfl) ?_
                                                  conv => whnf
                                                  refine And.intro (by with_reducible rfl) ?_
                                                  conv => whnf
                                                  refine And.intro (by with_reducible rfl) ?_
                                                  conv => whnf
                                                  refine And.intro (by with_reducible rfl) ?_
                                                  conv => whnf
                                                  refine And.intro (by with_reducible rfl) ?_
                                                  conv => whnf
                                                  refine And.intro (by with_reducible rfl) ?_
                                                  conv => whnf
                                                  refine And.intro (by with_reducible rfl) ?_
                                                  conv => whnf
                                                  refine And.intro (by with_reducible rfl) ?_
                                                  conv => whnf
                                                  refine And.intro (by with_reducible rfl) ?_
                                                  conv => whnf
                                                  refine And.intro (by with_reducible rfl) ?_
                                                  conv => whnf
                                                  refine And.intro (by with_reducible rfl) ?_
                                                  conv => whnf
                                                  refine And.intro (by with_reducible rfl) ?_
                                                  conv => whnf
                                                  refine And.intro (by with_reducible rfl) ?_
                                                  conv => whnf
                                                  refine And.intro (by with_reducible rfl) ?_
                                                  conv => whnf
                                                  refine And.intro (by with_reducible rfl) ?_
                                                  conv => whnf
                                                  refine And.intro (by with_reducible rfl) ?_
                                                  conv => whnf
                                                  refine And.intro (by with_reducible rfl) ?_
                                                  exact True.intro
                                                · omega
                                                · rintro j nextl1 hIl1 ihl1
                                                  try dsimp only at hIl1
                                                  conv => whnf
                                                  refine And.intro (fun hc15 => ?_) (fun hc15 => ?_)
                                                  · replace hc15 := of_decide_eq_true hc15
                                                    conv => whnf
                                                    refine And.intro (by exact rfl) ?_
                                                    conv => whnf
                                                    refine And.intro (by (rw [wr_j hc1 hc0 hIl1]; omega)) ?_
                                                    refine ex_row (l := m ++ l.take (mv r1 l m r2)) ?_ fun z hz => ?_
                                                    · (rw [wr_j hc1 hc0 hIl1]; simp only [List.length_append, List.length_take, Int.toNat_natCast]; omega)
                                                    · conv => whnf
                                                      refine And.intro (by omega) ?_
                                                      refine ex_row (l := l) ?_ fun y hy => ?_
                                                      · omega
                                                      · simp only [toNat_ofNat] at hy
                                                        conv => whnf
                                                        refine And.intro (fun hc18 => ?_) (fun hc18 => ?_)
                                                        · replace hc18 := of_decide_eq_false (Bool.not_eq_true' _ |>.mp hc18)
                                                          exact absurd (mv_same' hc1 hc0 (by assumption) hz hy) (by assumption)
                                                        · replace hc18 := of_decide_eq_true (Bool.not_eq_false' _ |>.mp hc18)
                                                          conv => whnf
                                                          refine ihl1 (j + 1) _ ?_ ?_ (st_of ?_)
                                                          · omega
                                                          · omega
                                                          · conv => whnf
                                                            refine And.intro (by with_reducible rfl) ?_
                                                            conv => whnf
                                                            refine And.intro (by with_reducible rfl) ?_
                                                            conv => whnf
                                                            refine And.intro (by with_reducible rfl) ?_
                                                            refine And.intro (by with_reducible rfl) ?_
                                                            conv => whnf
                                                            refine And.intro (by with_reducible rfl) ?_
                                                            refine And.intro (by with_reducible rfl) ?_
                                                            conv => whnf
                                                            refine And.intro (by with_reducible rfl) ?_
                                                            refine And.intro (by with_reducible rfl) ?_
                                                            conv => whnf
                                                            refine And.intro (by with_reducible rfl) ?_
                                                            conv => whnf
                                                            refine And.intro (by (clear ihl1 ihl0; have := dd_all (l := l) (by simp only [map_rows] at *; omega); simp only [map_rows, wrap_i64] at *; omega)) ?_
                                                            conv => whnf
                                                            refine And.intro (by with_reducible rfl) ?_
                                                            conv => whnf
                                                            refine And.intro (by with_reducible rfl) ?_
                                                            conv => whnf
                                                            refine And.intro (by with_reducible rfl) ?_
                                                            conv => whnf
                                                            refine And.intro (by with_reducible rfl) ?_
                                                            conv => whnf
                                                            refine And.intro (by with_reducible rfl) ?_
                                                            conv => whnf
                                                            refine And.intro (by with_reducible rfl) ?_
                                                            conv => whnf
                                                            refine And.intro (by with_reducible rfl) ?_
                                                            conv => whnf
                                                            refine And.intro (by with_reducible rfl) ?_
                                                            conv => whnf
                                                            refine And.intro (by with_reducible rfl) ?_
                                                            conv => whnf
                                                            refine And.intro (by with_reducible rfl) ?_
                                                            conv => whnf
                                                            refine And.intro (by with_reducible rfl) ?_
                                                            conv => whnf
                                                            refine And.intro (by with_reducible rfl) ?_
                                                            conv => whnf
                                                            refine And.intro (by with_reducible rfl) ?_
                                                            conv => whnf
                                                            refine And.intro (by with_reducible rfl) ?_
                                                            conv => whnf
                                                            refine And.intro (by with_reducible rfl) ?_
                                                            conv => whnf
                                                            refine And.intro (by with_reducible rfl) ?_
                                                            conv => whnf
                                                            refine And.intro (by with_reducible rfl) ?_
                                                            conv => whnf
                                                            refine And.intro (by with_reducible rfl) ?_
                                                            conv => whnf
                                                            refine And.intro (by with_reducible rfl) ?_
                                                            exact True.intro
                                                  · replace hc15 := of_decide_eq_false hc15
                                                    conv => whnf
                                                    refine loop_at (α := Nat) [] (fun k => [(186, .int .i64 (k : Int))]) (fun k => []) (fun k => k ≤ (dd l).length) (fun k => (dd l).length - k) (0) (st_of ?_) ?_ (by rintro k _; rfl) ?_
                                                    · conv => whnf
                                                      refine And.intro (by with_reducible rfl) ?_
                                                      refine And.intro (by with_reducible rfl) ?_
                                                      conv => whnf
                                                      refine And.intro (by with_reducible rfl) ?_
                                                      refine And.intro (by with_reducible rfl) ?_
                                                      conv => whnf
                                                      refine And.intro (by with_reducible rfl) ?_
                                                      conv => whnf
                                                      refine And.intro (by with_reducible rfl) ?_
                                                      conv => whnf
                                                      refine And.intro (by decide) ?_
                                                      conv => whnf
                                                      refine And.intro (by with_reducible rfl) ?_
                                                      conv => whnf
                                                      refine And.intro (by with_reducible rfl) ?_
                                                      conv => whnf
                                                      refine And.intro (by with_reducible rfl) ?_
                                                      conv => whnf
                                                      refine And.intro (by with_reducible rfl) ?_
                                                      conv => whnf
                                                      refine And.intro (by with_reducible rfl) ?_
                                                      conv => whnf
                                                      refine And.intro (by with_reducible rfl) ?_
                                                      conv => whnf
                                                      refine And.intro (by with_reducible rfl) ?_
                                                      conv => whnf
                                                      refine And.intro (by with_reducible rfl) ?_
                                                      conv => whnf
                                                      refine And.intro (by with_reducible rfl) ?_
                                                      conv => whnf
                                                      refine And.intro (by with_reducible rfl) ?_
                                                      conv => whnf
                                                      refine And.intro (by with_reducible rfl) ?_
                                                      conv => whnf
                                                      refine And.intro (by with_reducible rfl) ?_
                                                      conv => whnf
                                                      refine And.intro (by with_reducible rfl) ?_
                                                      conv => whnf
                                                      refine And.intro (by with_reducible rfl) ?_
                                                      conv => whnf
                                                      refine And.intro (by with_reducible rfl) ?_
                                                      conv => whnf
                                                      refine And.intro (by with_reducible rfl) ?_
                                                      conv => whnf
                                                      refine And.intro (by with_reducible rfl) ?_
                                                      conv => whnf
                                                      refine And.intro (by with_reducible rfl) ?_
                                                      conv => whnf
                                                      refine And.intro (by with_reducible rfl) ?_
                                                      exact True.intro
                                                    · omega
                                                    · rintro k nextl2 hIl2 ihl2
                                                      try dsimp only at hIl2
                                                      conv => whnf
                                                      refine And.intro (fun hc19 => ?_) (fun hc19 => ?_)
                                                      · replace hc19 := of_decide_eq_true hc19
                                                        conv => whnf
                                                        refine And.intro (by omega) ?_
                                                        refine ex_row (l := dd l) ?_ fun u hu => ?_
                                                        · (clear ihl1 ihl0; have := dd_all (l := l) (by simp only [map_rows] at *; omega); simp only [map_rows, wrap_i64] at *; omega)
                                                        · simp only [toNat_ofNat] at hu
                                                          conv => whnf
                                                          refine ⟨_, (find_good _ _ _) ?_, ?_⟩
                                                          · (clear ihl1 ihl0; have := dd_all (l := l) (by simp only [map_rows] at *; omega); simp only [map_rows, wrap_i64] at *; omega)
                                                          · conv => whnf
                                                            refine And.intro (fun hc21 => ?_) (fun hc21 => ?_)
                                                            · replace hc21 := of_decide_eq_true (Bool.not_eq_false' _ |>.mp hc21)
                                                              conv => whnf
                                                              refine br_l rfl rfl ?_
                                                              conv => whnf
                                                              refine br_l rfl rfl ?_
                                                              conv => whnf
                                                              refine ⟨_, (find_good _ _ _) ?_, ?_⟩
                                                              · (clear ihl1 ihl0; have := dd_all (l := l) (by simp only [map_rows] at *; omega); simp only [map_rows, wrap_i64] at *; omega)
                                                              · conv => whnf
                                                                refine br_l rfl rfl ?_
                                                                conv => whnf
                                                                refine br_r rfl rfl ?_
                                                                conv => whnf
                                                                refine And.intro (fun hc22 => ?_) (fun hc22 => ?_)
                                                                · replace hc22 := of_decide_eq_true hc22
                                                                  exact absurd (by assumption) (fnd_there hu)
                                                                · replace hc22 := of_decide_eq_false hc22
                                                                  conv => whnf
                                                                  refine ihl2 (k + 1) _ ?_ ?_ (st_of ?_)
                                                                  · (clear ihl1 ihl0; have := dd_all (l := l) (by simp only [map_rows] at *; omega); simp only [map_rows, wrap_i64] at *; omega)
                                                                  · (clear ihl1 ihl0; have := dd_all (l := l) (by simp only [map_rows] at *; omega); simp only [map_rows, wrap_i64] at *; omega)
                                                                  · conv => whnf
                                                                    refine And.intro (by with_reducible rfl) ?_
                                                                    refine And.intro (by with_reducible rfl) ?_
                                                                    conv => whnf
                                                                    refine And.intro (by with_reducible rfl) ?_
                                                                    refine And.intro (by with_reducible rfl) ?_
                                                                    conv => whnf
                                                                    refine And.intro (by with_reducible rfl) ?_
                                                                    conv => whnf
                                                                    refine And.intro (by with_reducible rfl) ?_
                                                                    conv => whnf
                                                                    refine And.intro (by (clear ihl1 ihl0; have := dd_all (l := l) (by simp only [map_rows] at *; omega); simp only [map_rows, wrap_i64] at *; omega)) ?_
                                                                    conv => whnf
                                                                    refine And.intro (by with_reducible rfl) ?_
                                                                    conv => whnf
                                                                    refine And.intro (by with_reducible rfl) ?_
                                                                    conv => whnf
                                                                    refine And.intro (by with_reducible rfl) ?_
                                                                    conv => whnf
                                                                    refine And.intro (by with_reducible rfl) ?_
                                                                    conv => whnf
                                                                    refine And.intro (by with_reducible rfl) ?_
                                                                    conv => whnf
                                                                    refine And.intro (by with_reducible rfl) ?_
                                                                    conv => whnf
                                                                    refine And.intro (by with_reducible rfl) ?_
                                                                    conv => whnf
                                                                    refine And.intro (by with_reducible rfl) ?_
                                                                    conv => whnf
                                                                    refine And.intro (by with_reducible rfl) ?_
                                                                    conv => whnf
                                                                    refine And.intro (by with_reducible rfl) ?_
                                                                    conv => whnf
                                                                    refine And.intro (by with_reducible rfl) ?_
                                                                    conv => whnf
                                                                    refine And.intro (by with_reducible rfl) ?_
                                                                    conv => whnf
                                                                    refine And.intro (by with_reducible rfl) ?_
                                                                    conv => whnf
                                                                    refine And.intro (by with_reducible rfl) ?_
                                                                    conv => whnf
                                                                    refine And.intro (by with_reducible rfl) ?_
                                                                    conv => whnf
                                                                    refine And.intro (by with_reducible rfl) ?_
                                                                    conv => whnf
                                                                    refine And.intro (by with_reducible rfl) ?_
                                                                    conv => whnf
                                                                    refine And.intro (by with_reducible rfl) ?_
                                                                    conv => whnf
                                                                    refine And.intro (by with_reducible rfl) ?_
                                                                    exact True.intro
                                                            · replace hc21 := of_decide_eq_false (Bool.not_eq_true' _ |>.mp hc21)
                                                              exact absurd (fnd_own hu) (by assumption)
                                                      · replace hc19 := of_decide_eq_false hc19
                                                        conv => whnf
                                                        refine ⟨_, awake12_good, ?_⟩
                                                        conv => whnf
                                                        refine AV.of_eqv ?_
                                                        conv => whnf
                                                        refine And.intro (by with_reducible rfl) ?_
                                                        exact True.intro
                                            · replace hc13 := of_decide_eq_false (Bool.not_eq_true' _ |>.mp hc13)
                                              (clear ihl0; exfalso; simp only [map_rows, List.length_append, List.length_drop, List.length_take, wrap_i64] at *; omega)
                                    · replace hc11 := of_decide_eq_false (Bool.not_eq_true' _ |>.mp hc11)
                                      contradiction
                                  · replace hc10 := of_decide_eq_false (Bool.not_eq_true' _ |>.mp hc10)
                                    (simp at hc10; done)
                              · replace hc9 := of_decide_eq_false (Bool.not_eq_true' _ |>.mp hc9)
                                (simp at hc9; done)
                          · replace hc8 := of_decide_eq_false (Bool.not_eq_true' _ |>.mp hc8)
                            contradiction
                        · replace hc7 := of_decide_eq_false (Bool.not_eq_true' _ |>.mp hc7)
                          (simp at hc7; done)
                    · replace hc6 := of_decide_eq_false (Bool.not_eq_true' _ |>.mp hc6)
                      contradiction
                  · replace hc5 := of_decide_eq_false (Bool.not_eq_true' _ |>.mp hc5)
                    contradiction
  · replace hc0 := of_decide_eq_true hc0
    conv => whnf
    refine br_r rfl rfl ?_
    conv => whnf
    refine br_r rfl rfl ?_
    conv => whnf
    refine br_l rfl rfl ?_
    conv => whnf
    refine br_l rfl rfl ?_
    conv => whnf
    refine ⟨_, awake12_good, ?_⟩
    conv => whnf
    refine AV.of_eqv ?_
    conv => whnf
    refine And.intro (by with_reducible rfl) ?_
    exact True.intro
end Go.Proofs.Ytgdkpiabahpleaa

/- The laws AirKeeps and AirPlays: their contracts. -/
import Derived.Test.YtmchbkmenokkdaaS40
set_option maxRecDepth 100000
set_option linter.unusedSimpArgs false
set_option linter.unusedVariables false
namespace Go.Proofs.Ytmchbkmenokkdaa
open Go.RowKit
set_option maxHeartbeats 4000000
abbrev Op40 := Int × Fl × Int
def op40 (x : Op40) : List AV := [.int .i64 x.1, .int .i64 x.2.1.1, .int .i64 x.2.1.2.1, .str x.2.1.2.2, .int .i64 x.2.2]
theorem putE_f (l f : List Fl) : (600 < l.length + f.length ∧ 0 < f.length ∧ putE l f = 8 ∧ (putL l f).length = l.length) ∨ (¬ (0 < f.length ∧ 600 < l.length + f.length) ∧ putE l f = 0 ∧ (putL l f).length = l.length + f.length) := by
  by_cases h : full l f
  · left; unfold putE putL; rw [if_pos h, if_pos h]; exact ⟨h.2, h.1, rfl, rfl⟩
  · right; unfold putE putL; rw [if_neg h, if_neg h]; exact ⟨h, rfl, List.length_append⟩
theorem takE_f (l : List Fl) (i : Int) : (0 ≤ i ∧ i < l.length ∧ takE l i = 0 ∧ (takL l i).length + 1 = l.length) ∨ (¬ (0 ≤ i ∧ i < l.length) ∧ takE l i = 9 ∧ (takL l i).length = l.length) := by
  by_cases h : isAt l i
  · left; unfold takE takL; rw [if_pos h, if_pos h]; unfold isAt at h; exact ⟨h.1, h.2, rfl, by simp; omega⟩
  · right; unfold takE takL; rw [if_neg h, if_neg h]; exact ⟨h, rfl, rfl⟩
theorem twiE_f (l : List Fl) (i : Int) : (0 ≤ i ∧ i < l.length ∧ ((600 < l.length + 1 ∧ twiE l i = 8 ∧ (twiL l i).length = l.length) ∨ (l.length + 1 ≤ 600 ∧ twiE l i = 0 ∧ (twiL l i).length = l.length + 1))) ∨ (¬ (0 ≤ i ∧ i < l.length) ∧ twiE l i = 9 ∧ (twiL l i).length = l.length) := by
  by_cases h : isAt l i
  · left; unfold twiE twiL; rw [if_pos h, if_pos h]
    have := putE_f l [atF l i]
    simp only [List.length_cons, List.length_nil] at this
    unfold isAt at h
    omega
  · right; unfold twiE twiL; rw [if_neg h, if_neg h]; exact ⟨h, rfl, rfl⟩
theorem takF_ne {cur : List Fl} {i : Int} {y : Fl} (h0 : 0 ≤ i) (hy : cur[i.toNat]? = some y) (h : (takF cur i).1 = y.1 → (takF cur i).2.1 = y.2.1 → ¬ (takF cur i).2.2 = y.2.2) : False := by
  have e : takF cur i = y := by (unfold takF; rw [if_pos (by unfold isAt; have := lt_at hy; omega), atF_at hy])
  rw [e] at h
  exact h rfl rfl rfl
theorem airKeeps_good (l : List Op40) : Good Try.prog 11 [.sl .sh 5 (l.map op40)] (.bool true) := by
  apply good_at ak11 rfl rfl rfl
  conv => whnf
  refine And.intro (fun hc0 => ?_) (fun hc0 => ?_)
  · replace hc0 := of_decide_eq_true hc0
    conv => whnf
    refine ⟨_, awake40_good, ?_⟩
    conv => whnf
    refine AV.of_eqv ?_
    conv => whnf
    refine And.intro (by with_reducible rfl) ?_
    exact True.intro
  · replace hc0 := of_decide_eq_false hc0
    conv => whnf
    refine loop_at (α := Nat × List Fl) [3] (fun ⟨i, cur⟩ => [(20, .int .i64 (i : Int)), (3, .sl .sh 3 (cur.map fl)), (4, .int .i64 (cur.length : Int))]) (fun ⟨i, cur⟩ => []) (fun ⟨i, cur⟩ => i ≤ l.length ∧ cur.length ≤ i) (fun ⟨i, cur⟩ => l.length - i) ((0, [])) (st_of ?_) ?_ (by rintro ⟨i, cur⟩ _; rfl) ?_
    · conv => whnf
      refine And.intro (by with_reducible rfl) ?_
      conv => whnf
      refine And.intro (by decide) ?_
      conv => whnf
      refine And.intro (by decide) ?_
      conv => whnf
      refine And.intro (by with_reducible rfl) ?_
      conv => whnf
      refine And.intro (by with_reducible rfl) ?_
      conv => whnf
      refine And.intro (by with_reducible rfl) ?_
      conv => whnf
      refine And.intro (by with_reducible rfl) ?_
      conv => whnf
      refine And.intro (by with_reducible rfl) ?_
      conv => whnf
      refine And.intro (by decide) ?_
      exact True.intro
    · dsimp only
      ((try simp only [map_rows, List.length_cons, List.length_nil, wrap_i64, maxLen_eq] at *); omega)
    · rintro ⟨i, cur⟩ nextl0 hIl0 ihl0
      try dsimp only at hIl0
      conv => whnf
      refine And.intro (fun hc1 => ?_) (fun hc1 => ?_)
      · replace hc1 := of_decide_eq_true hc1
        conv => whnf
        refine And.intro (by omega) ?_
        refine And.intro (by decide) ?_
        refine ex_row (l := l) ?_ fun x hx => ?_
        · ((try simp only [map_rows, List.length_cons, List.length_nil, wrap_i64, maxLen_eq] at *); omega)
        · simp only [toNat_ofNat] at hx
          conv => whnf
          refine And.intro (fun hc3 => ?_) (fun hc3 => ?_)
          · replace hc3 := of_decide_eq_true hc3
            conv => whnf
            refine ⟨_, (put_good _ cur [x.2.1]) ?_ ?_ ?_, ?_⟩
            · exact rfl
            · omega
            · ((try simp only [map_rows, List.length_cons, List.length_nil, wrap_i64, maxLen_eq] at *); omega)
            · conv => whnf
              refine And.intro (fun hc4 => ?_) (fun hc4 => ?_)
              · replace hc4 := of_decide_eq_false (Bool.not_eq_true' _ |>.mp hc4)
                (exfalso; have p1 := putE_f cur [x.2.1]; have p2 := takE_f cur x.2.2; have p3 := twiE_f cur x.2.2; (try simp only [map_rows, List.length_cons, List.length_nil, wrap_i64, maxLen_eq, decide_eq_decide, decide_eq_false_iff_not] at *); omega)
              · replace hc4 := of_decide_eq_true (Bool.not_eq_false' _ |>.mp hc4)
                conv => whnf
                refine And.intro (fun hc5 => ?_) (fun hc5 => ?_)
                · replace hc5 := of_decide_eq_false (Bool.not_eq_true' _ |>.mp hc5)
                  (exfalso; have p1 := putE_f cur [x.2.1]; have p2 := takE_f cur x.2.2; have p3 := twiE_f cur x.2.2; (try simp only [map_rows, List.length_cons, List.length_nil, wrap_i64, maxLen_eq, decide_eq_decide, decide_eq_false_iff_not] at *); omega)
                · replace hc5 := of_decide_eq_true (Bool.not_eq_false' _ |>.mp hc5)
                  conv => whnf
                  refine ihl0 ((i + 1, putL cur [x.2.1])) _ ?_ ?_ (st_of ?_)
                  · dsimp only
                    ((try simp only [map_rows, List.length_cons, List.length_nil, wrap_i64, maxLen_eq] at *); omega)
                  · dsimp only
                    ((try simp only [map_rows, List.length_cons, List.length_nil, wrap_i64, maxLen_eq] at *); omega)
                  · conv => whnf
                    refine And.intro (by with_reducible rfl) ?_
                    conv => whnf
                    refine And.intro (by with_reducible rfl) ?_
                    conv => whnf
                    refine And.intro (by ((try simp only [map_rows, List.length_cons, List.length_nil, wrap_i64, maxLen_eq] at *); omega)) ?_
                    conv => whnf
                    refine And.intro (by with_reducible rfl) ?_
                    conv => whnf
                    refine And.intro (by with_reducible rfl) ?_
                    conv => whnf
                    refine And.intro (by with_reducible rfl) ?_
                    conv => whnf
                    refine And.intro (by with_reducible rfl) ?_
                    conv => whnf
                    refine And.intro (by with_reducible rfl) ?_
                    conv => whnf
                    refine And.intro (by ((try simp only [map_rows, List.length_cons, List.length_nil, wrap_i64, maxLen_eq] at *); omega)) ?_
                    exact True.intro
          · replace hc3 := of_decide_eq_false hc3
            conv => whnf
            refine And.intro (fun hc6 => ?_) (fun hc6 => ?_)
            · replace hc6 := of_decide_eq_true hc6
              conv => whnf
              refine ⟨_, (take_good cur) _ ?_, ?_⟩
              · omega
              · conv => whnf
                refine And.intro (fun hc7 => ?_) (fun hc7 => ?_)
                · replace hc7 := of_decide_eq_false (Bool.not_eq_true' _ |>.mp hc7)
                  (simp at hc7; done)
                · replace hc7 := of_decide_eq_true (Bool.not_eq_false' _ |>.mp hc7)
                  conv => whnf
                  refine And.intro (by exact rfl) ?_
                  conv => whnf
                  refine And.intro (fun hc8 => ?_) (fun hc8 => ?_)
                  · replace hc8 := of_decide_eq_true hc8
                    conv => whnf
                    refine br_l rfl rfl ?_
                    conv => whnf
                    refine br_l rfl rfl ?_
                    conv => whnf
                    refine br_l rfl rfl ?_
                    conv => whnf
                    refine br_l rfl rfl ?_
                    conv => whnf
                    refine br_l rfl rfl ?_
                    conv => whnf
                    refine And.intro (fun hc9 => ?_) (fun hc9 => ?_)
                    · replace hc9 := of_decide_eq_true (Bool.not_eq_false' _ |>.mp hc9)
                      conv => whnf
                      refine br_l rfl rfl ?_
                      conv => whnf
                      refine br_l rfl rfl ?_
                      conv => whnf
                      refine And.intro (fun hc10 => ?_) (fun hc10 => ?_)
                      · replace hc10 := of_decide_eq_true hc10
                        conv => whnf
                        refine br_l rfl rfl ?_
                        conv => whnf
                        refine br_l rfl rfl ?_
                        conv => whnf
                        refine br_l rfl rfl ?_
                        conv => whnf
                        refine br_l rfl rfl ?_
                        conv => whnf
                        refine And.intro (by assumption) ?_
                        refine And.intro (by decide) ?_
                        refine ex_row (l := cur) ?_ fun y hy => ?_
                        · (have p1 := putE_f cur [x.2.1]; have p2 := takE_f cur x.2.2; have p3 := twiE_f cur x.2.2; (try simp only [map_rows, List.length_cons, List.length_nil, wrap_i64, maxLen_eq] at *); omega)
                        · conv => whnf
                          refine br_l rfl rfl ?_
                          conv => whnf
                          refine br_l rfl rfl ?_
                          conv => whnf
                          refine br_l rfl rfl ?_
                          conv => whnf
                          refine br_l rfl rfl ?_
                          conv => whnf
                          refine br_r rfl rfl ?_
                          conv => whnf
                          refine And.intro (fun hc12 => ?_) (fun hc12 => ?_)
                          · simp only [Bool.not_eq_true', Bool.not_eq_false', Bool.and_eq_true, Bool.and_eq_false_imp, Bool.or_eq_true, Bool.or_eq_false_iff, Bool.and_true, Bool.true_and, Bool.not_true, Bool.not_false, decide_eq_true_eq, decide_eq_false_iff_not, Bool.decide_and] at hc12
                            (exact (takF_ne (by omega) hy (by assumption)).elim)
                          · simp only [Bool.not_eq_true', Bool.not_eq_false', Bool.and_eq_true, Bool.and_eq_false_imp, Bool.or_eq_true, Bool.or_eq_false_iff, Bool.and_true, Bool.true_and, Bool.not_true, Bool.not_false, decide_eq_true_eq, decide_eq_false_iff_not, Bool.decide_and] at hc12
                            conv => whnf
                            refine And.intro (fun hc13 => ?_) (fun hc13 => ?_)
                            · replace hc13 := of_decide_eq_true hc13
                              conv => whnf
                              refine And.intro (fun hc14 => ?_) (fun hc14 => ?_)
                              · replace hc14 := of_decide_eq_false (Bool.not_eq_true' _ |>.mp hc14)
                                (exfalso; have p1 := putE_f cur [x.2.1]; have p2 := takE_f cur x.2.2; have p3 := twiE_f cur x.2.2; (try simp only [map_rows, List.length_cons, List.length_nil, wrap_i64, maxLen_eq, decide_eq_decide, decide_eq_false_iff_not] at *); omega)
                              · replace hc14 := of_decide_eq_true (Bool.not_eq_false' _ |>.mp hc14)
                                conv => whnf
                                refine ihl0 ((i + 1, takL cur x.2.2)) _ ?_ ?_ (st_of ?_)
                                · dsimp only
                                  ((try simp only [map_rows, List.length_cons, List.length_nil, wrap_i64, maxLen_eq] at *); omega)
                                · dsimp only
                                  ((try simp only [map_rows, List.length_cons, List.length_nil, wrap_i64, maxLen_eq] at *); omega)
                                · conv => whnf
                                  refine And.intro (by with_reducible rfl) ?_
                                  conv => whnf
                                  refine And.intro (by with_reducible rfl) ?_
                                  conv => whnf
                                  refine And.intro (by ((try simp only [map_rows, List.length_cons, List.length_nil, wrap_i64, maxLen_eq] at *); omega)) ?_
                                  conv => whnf
                                  refine And.intro (by with_reducible rfl) ?_
                                  conv => whnf
                                  refine And.intro (by with_reducible rfl) ?_
                                  conv => whnf
                                  refine And.intro (by with_reducible rfl) ?_
                                  conv => whnf
                                  refine And.intro (by with_reducible rfl) ?_
                                  conv => whnf
                                  refine And.intro (by with_reducible rfl) ?_
                                  conv => whnf
                                  refine And.intro (by ((try simp only [map_rows, List.length_cons, List.length_nil, wrap_i64, maxLen_eq] at *); omega)) ?_
                                  exact True.intro
                            · replace hc13 := of_decide_eq_false hc13
                              contradiction
                      · replace hc10 := of_decide_eq_false hc10
                        conv => whnf
                        refine br_r rfl rfl ?_
                        conv => whnf
                        refine br_r rfl rfl ?_
                        conv => whnf
                        refine br_r rfl rfl ?_
                        conv => whnf
                        refine br_r rfl rfl ?_
                        conv => whnf
                        refine br_r rfl rfl ?_
                        conv => whnf
                        refine br_r rfl rfl ?_
                        conv => whnf
                        refine br_l rfl rfl ?_
                        conv => whnf
                        refine br_r rfl rfl ?_
                        conv => whnf
                        refine br_r rfl rfl ?_
                        conv => whnf
                        refine br_r rfl rfl ?_
                        conv => whnf
                        refine And.intro (fun hc15 => ?_) (fun hc15 => ?_)
                        · replace hc15 := of_decide_eq_true hc15
                          contradiction
                        · replace hc15 := of_decide_eq_false hc15
                          conv => whnf
                          refine And.intro (fun hc16 => ?_) (fun hc16 => ?_)
                          · replace hc16 := of_decide_eq_false (Bool.not_eq_true' _ |>.mp hc16)
                            (exfalso; have p1 := putE_f cur [x.2.1]; have p2 := takE_f cur x.2.2; have p3 := twiE_f cur x.2.2; (try simp only [map_rows, List.length_cons, List.length_nil, wrap_i64, maxLen_eq, decide_eq_decide, decide_eq_false_iff_not] at *); omega)
                          · replace hc16 := of_decide_eq_true (Bool.not_eq_false' _ |>.mp hc16)
                            conv => whnf
                            refine ihl0 ((i + 1, takL cur x.2.2)) _ ?_ ?_ (st_of ?_)
                            · dsimp only
                              ((try simp only [map_rows, List.length_cons, List.length_nil, wrap_i64, maxLen_eq] at *); omega)
                            · dsimp only
                              ((try simp only [map_rows, List.length_cons, List.length_nil, wrap_i64, maxLen_eq] at *); omega)
                            · conv => whnf
                              refine And.intro (by with_reducible rfl) ?_
                              conv => whnf
                              refine And.intro (by with_reducible rfl) ?_
                              conv => whnf
                              refine And.intro (by ((try simp only [map_rows, List.length_cons, List.length_nil, wrap_i64, maxLen_eq] at *); omega)) ?_
                              conv => whnf
                              refine And.intro (by with_reducible rfl) ?_
                              conv => whnf
                              refine And.intro (by with_reducible rfl) ?_
                              conv => whnf
                              refine And.intro (by with_reducible rfl) ?_
                              conv => whnf
                              refine And.intro (by with_reducible rfl) ?_
                              conv => whnf
                              refine And.intro (by with_reducible rfl) ?_
                              conv => whnf
                              refine And.intro (by ((try simp only [map_rows, List.length_cons, List.length_nil, wrap_i64, maxLen_eq] at *); omega)) ?_
                              exact True.intro
                    · replace hc9 := of_decide_eq_false (Bool.not_eq_true' _ |>.mp hc9)
                      (exfalso; have p1 := putE_f cur [x.2.1]; have p2 := takE_f cur x.2.2; have p3 := twiE_f cur x.2.2; (try simp only [map_rows, List.length_cons, List.length_nil, wrap_i64, maxLen_eq, decide_eq_decide, decide_eq_false_iff_not] at *); omega)
                  · replace hc8 := of_decide_eq_false hc8
                    conv => whnf
                    refine br_r rfl rfl ?_
                    conv => whnf
                    refine br_r rfl rfl ?_
                    conv => whnf
                    refine br_r rfl rfl ?_
                    conv => whnf
                    refine br_r rfl rfl ?_
                    conv => whnf
                    refine br_r rfl rfl ?_
                    conv => whnf
                    refine And.intro (fun hc17 => ?_) (fun hc17 => ?_)
                    · replace hc17 := of_decide_eq_true (Bool.not_eq_false' _ |>.mp hc17)
                      conv => whnf
                      refine br_l rfl rfl ?_
                      conv => whnf
                      refine br_l rfl rfl ?_
                      conv => whnf
                      refine And.intro (fun hc18 => ?_) (fun hc18 => ?_)
                      · replace hc18 := of_decide_eq_true hc18
                        (exfalso; have p1 := putE_f cur [x.2.1]; have p2 := takE_f cur x.2.2; have p3 := twiE_f cur x.2.2; (try simp only [map_rows, List.length_cons, List.length_nil, wrap_i64, maxLen_eq, decide_eq_decide, decide_eq_false_iff_not] at *); omega)
                      · replace hc18 := of_decide_eq_false hc18
                        conv => whnf
                        refine br_r rfl rfl ?_
                        conv => whnf
                        refine br_r rfl rfl ?_
                        conv => whnf
                        refine br_r rfl rfl ?_
                        conv => whnf
                        refine br_r rfl rfl ?_
                        conv => whnf
                        refine br_r rfl rfl ?_
                        conv => whnf
                        refine br_r rfl rfl ?_
                        conv => whnf
                        refine br_l rfl rfl ?_
                        conv => whnf
                        refine br_r rfl rfl ?_
                        conv => whnf
                        refine br_r rfl rfl ?_
                        conv => whnf
                        refine br_r rfl rfl ?_
                        conv => whnf
                        refine And.intro (fun hc19 => ?_) (fun hc19 => ?_)
                        · replace hc19 := of_decide_eq_true hc19
                          contradiction
                        · replace hc19 := of_decide_eq_false hc19
                          conv => whnf
                          refine And.intro (fun hc20 => ?_) (fun hc20 => ?_)
                          · replace hc20 := of_decide_eq_false (Bool.not_eq_true' _ |>.mp hc20)
                            (exfalso; have p1 := putE_f cur [x.2.1]; have p2 := takE_f cur x.2.2; have p3 := twiE_f cur x.2.2; (try simp only [map_rows, List.length_cons, List.length_nil, wrap_i64, maxLen_eq, decide_eq_decide, decide_eq_false_iff_not] at *); omega)
                          · replace hc20 := of_decide_eq_true (Bool.not_eq_false' _ |>.mp hc20)
                            conv => whnf
                            refine ihl0 ((i + 1, takL cur x.2.2)) _ ?_ ?_ (st_of ?_)
                            · dsimp only
                              ((try simp only [map_rows, List.length_cons, List.length_nil, wrap_i64, maxLen_eq] at *); omega)
                            · dsimp only
                              ((try simp only [map_rows, List.length_cons, List.length_nil, wrap_i64, maxLen_eq] at *); omega)
                            · conv => whnf
                              refine And.intro (by with_reducible rfl) ?_
                              conv => whnf
                              refine And.intro (by with_reducible rfl) ?_
                              conv => whnf
                              refine And.intro (by ((try simp only [map_rows, List.length_cons, List.length_nil, wrap_i64, maxLen_eq] at *); omega)) ?_
                              conv => whnf
                              refine And.intro (by with_reducible rfl) ?_
                              conv => whnf
                              refine And.intro (by with_reducible rfl) ?_
                              conv => whnf
                              refine And.intro (by with_reducible rfl) ?_
                              conv => whnf
                              refine And.intro (by with_reducible rfl) ?_
                              conv => whnf
                              refine And.intro (by with_reducible rfl) ?_
                              conv => whnf
                              refine And.intro (by ((try simp only [map_rows, List.length_cons, List.length_nil, wrap_i64, maxLen_eq] at *); omega)) ?_
                              exact True.intro
                    · replace hc17 := of_decide_eq_false (Bool.not_eq_true' _ |>.mp hc17)
                      (exfalso; have p1 := putE_f cur [x.2.1]; have p2 := takE_f cur x.2.2; have p3 := twiE_f cur x.2.2; (try simp only [map_rows, List.length_cons, List.length_nil, wrap_i64, maxLen_eq, decide_eq_decide, decide_eq_false_iff_not] at *); omega)
            · replace hc6 := of_decide_eq_false hc6
              conv => whnf
              refine ⟨_, (twice_good cur) _ ?_, ?_⟩
              · omega
              · conv => whnf
                refine And.intro (fun hc21 => ?_) (fun hc21 => ?_)
                · replace hc21 := of_decide_eq_true hc21
                  conv => whnf
                  refine br_l rfl rfl ?_
                  conv => whnf
                  refine br_l rfl rfl ?_
                  conv => whnf
                  refine br_l rfl rfl ?_
                  conv => whnf
                  refine br_l rfl rfl ?_
                  conv => whnf
                  refine And.intro (fun hc22 => ?_) (fun hc22 => ?_)
                  · replace hc22 := of_decide_eq_false (Bool.not_eq_true' _ |>.mp hc22)
                    (exfalso; have p1 := putE_f cur [x.2.1]; have p2 := takE_f cur x.2.2; have p3 := twiE_f cur x.2.2; (try simp only [map_rows, List.length_cons, List.length_nil, wrap_i64, maxLen_eq, decide_eq_decide, decide_eq_false_iff_not] at *); omega)
                  · replace hc22 := of_decide_eq_true (Bool.not_eq_false' _ |>.mp hc22)
                    conv => whnf
                    refine And.intro (fun hc23 => ?_) (fun hc23 => ?_)
                    · replace hc23 := of_decide_eq_true hc23
                      conv => whnf
                      refine And.intro (fun hc24 => ?_) (fun hc24 => ?_)
                      · replace hc24 := of_decide_eq_false (Bool.not_eq_true' _ |>.mp hc24)
                        (exfalso; have p1 := putE_f cur [x.2.1]; have p2 := takE_f cur x.2.2; have p3 := twiE_f cur x.2.2; (try simp only [map_rows, List.length_cons, List.length_nil, wrap_i64, maxLen_eq, decide_eq_decide, decide_eq_false_iff_not] at *); omega)
                      · replace hc24 := of_decide_eq_true (Bool.not_eq_false' _ |>.mp hc24)
                        conv => whnf
                        refine ihl0 ((i + 1, twiL cur x.2.2)) _ ?_ ?_ (st_of ?_)
                        · dsimp only
                          ((try simp only [map_rows, List.length_cons, List.length_nil, wrap_i64, maxLen_eq] at *); omega)
                        · dsimp only
                          ((try simp only [map_rows, List.length_cons, List.length_nil, wrap_i64, maxLen_eq] at *); omega)
                        · conv => whnf
                          refine And.intro (by with_reducible rfl) ?_
                          conv => whnf
                          refine And.intro (by with_reducible rfl) ?_
                          conv => whnf
                          refine And.intro (by ((try simp only [map_rows, List.length_cons, List.length_nil, wrap_i64, maxLen_eq] at *); omega)) ?_
                          conv => whnf
                          refine And.intro (by with_reducible rfl) ?_
                          conv => whnf
                          refine And.intro (by with_reducible rfl) ?_
                          conv => whnf
                          refine And.intro (by with_reducible rfl) ?_
                          conv => whnf
                          refine And.intro (by with_reducible rfl) ?_
                          conv => whnf
                          refine And.intro (by with_reducible rfl) ?_
                          conv => whnf
                          refine And.intro (by ((try simp only [map_rows, List.length_cons, List.length_nil, wrap_i64, maxLen_eq] at *); omega)) ?_
                          exact True.intro
                    · replace hc23 := of_decide_eq_false hc23
                      conv => whnf
                      refine And.intro (fun hc25 => ?_) (fun hc25 => ?_)
                      · replace hc25 := of_decide_eq_false (Bool.not_eq_true' _ |>.mp hc25)
                        (exfalso; have p1 := putE_f cur [x.2.1]; have p2 := takE_f cur x.2.2; have p3 := twiE_f cur x.2.2; (try simp only [map_rows, List.length_cons, List.length_nil, wrap_i64, maxLen_eq, decide_eq_decide, decide_eq_false_iff_not] at *); omega)
                      · replace hc25 := of_decide_eq_true (Bool.not_eq_false' _ |>.mp hc25)
                        conv => whnf
                        refine ihl0 ((i + 1, twiL cur x.2.2)) _ ?_ ?_ (st_of ?_)
                        · dsimp only
                          ((try simp only [map_rows, List.length_cons, List.length_nil, wrap_i64, maxLen_eq] at *); omega)
                        · dsimp only
                          ((try simp only [map_rows, List.length_cons, List.length_nil, wrap_i64, maxLen_eq] at *); omega)
                        · conv => whnf
                          refine And.intro (by with_reducible rfl) ?_
                          conv => whnf
                          refine And.intro (by with_reducible rfl) ?_
                          conv => whnf
                          refine And.intro (by ((try simp only [map_rows, List.length_cons, List.length_nil, wrap_i64, maxLen_eq] at *); omega)) ?_
                          conv => whnf
                          refine And.intro (by with_reducible rfl) ?_
                          conv => whnf
                          refine And.intro (by with_reducible rfl) ?_
                          conv => whnf
                          refine And.intro (by with_reducible rfl) ?_
                          conv => whnf
                          refine And.intro (by with_reducible rfl) ?_
                          conv => whnf
                          refine And.intro (by with_reducible rfl) ?_
                          conv => whnf
                          refine And.intro (by ((try simp only [map_rows, List.length_cons, List.length_nil, wrap_i64, maxLen_eq] at *); omega)) ?_
                          exact True.intro
                · replace hc21 := of_decide_eq_false hc21
                  conv => whnf
                  refine br_r rfl rfl ?_
                  conv => whnf
                  refine br_r rfl rfl ?_
                  conv => whnf
                  refine br_r rfl rfl ?_
                  conv => whnf
                  refine br_r rfl rfl ?_
                  conv => whnf
                  refine And.intro (fun hc26 => ?_) (fun hc26 => ?_)
                  · replace hc26 := of_decide_eq_false (Bool.not_eq_true' _ |>.mp hc26)
                    (exfalso; have p1 := putE_f cur [x.2.1]; have p2 := takE_f cur x.2.2; have p3 := twiE_f cur x.2.2; (try simp only [map_rows, List.length_cons, List.length_nil, wrap_i64, maxLen_eq, decide_eq_decide, decide_eq_false_iff_not] at *); omega)
                  · replace hc26 := of_decide_eq_true (Bool.not_eq_false' _ |>.mp hc26)
                    conv => whnf
                    refine And.intro (fun hc27 => ?_) (fun hc27 => ?_)
                    · replace hc27 := of_decide_eq_true hc27
                      (exfalso; have p1 := putE_f cur [x.2.1]; have p2 := takE_f cur x.2.2; have p3 := twiE_f cur x.2.2; (try simp only [map_rows, List.length_cons, List.length_nil, wrap_i64, maxLen_eq, decide_eq_decide, decide_eq_false_iff_not] at *); omega)
                    · replace hc27 := of_decide_eq_false hc27
                      conv => whnf
                      refine And.intro (fun hc28 => ?_) (fun hc28 => ?_)
                      · replace hc28 := of_decide_eq_false (Bool.not_eq_true' _ |>.mp hc28)
                        (exfalso; have p1 := putE_f cur [x.2.1]; have p2 := takE_f cur x.2.2; have p3 := twiE_f cur x.2.2; (try simp only [map_rows, List.length_cons, List.length_nil, wrap_i64, maxLen_eq, decide_eq_decide, decide_eq_false_iff_not] at *); omega)
                      · replace hc28 := of_decide_eq_true (Bool.not_eq_false' _ |>.mp hc28)
                        conv => whnf
                        refine ihl0 ((i + 1, twiL cur x.2.2)) _ ?_ ?_ (st_of ?_)
                        · dsimp only
                          ((try simp only [map_rows, List.length_cons, List.length_nil, wrap_i64, maxLen_eq] at *); omega)
                        · dsimp only
                          ((try simp only [map_rows, List.length_cons, List.length_nil, wrap_i64, maxLen_eq] at *); omega)
                        · conv => whnf
                          refine And.intro (by with_reducible rfl) ?_
                          conv => whnf
                          refine And.intro (by with_reducible rfl) ?_
                          conv => whnf
                          refine And.intro (by ((try simp only [map_rows, List.length_cons, List.length_nil, wrap_i64, maxLen_eq] at *); omega)) ?_
                          conv => whnf
                          refine And.intro (by with_reducible rfl) ?_
                          conv => whnf
                          refine And.intro (by with_reducible rfl) ?_
                          conv => whnf
                          refine And.intro (by with_reducible rfl) ?_
                          conv => whnf
                          refine And.intro (by with_reducible rfl) ?_
                          conv => whnf
                          refine And.intro (by with_reducible rfl) ?_
                          conv => whnf
                          refine And.intro (by ((try simp only [map_rows, List.length_cons, List.length_nil, wrap_i64, maxLen_eq] at *); omega)) ?_
                          exact True.intro
      · replace hc1 := of_decide_eq_false hc1
        conv => whnf
        refine ⟨_, awake40_good, ?_⟩
        conv => whnf
        refine AV.of_eqv ?_
        conv => whnf
        refine And.intro (by with_reducible rfl) ?_
        exact True.intro
theorem airPlays_good (c : List Fl) (l : List Op40) : Good Try.prog 10 [.sl .sh 3 (c.map fl), .sl .sh 5 (l.map op40)] (.bool true) := by
  apply good_at ak10 rfl rfl rfl
  conv => whnf
  refine And.intro (fun hc0 => ?_) (fun hc0 => ?_)
  · replace hc0 := of_decide_eq_false hc0
    conv => whnf
    refine br_l rfl rfl ?_
    conv => whnf
    refine br_l rfl rfl ?_
    conv => whnf
    refine br_r rfl rfl ?_
    conv => whnf
    refine And.intro (fun hc1 => ?_) (fun hc1 => ?_)
    · replace hc1 := of_decide_eq_true hc1
      conv => whnf
      refine ⟨_, awake40_good, ?_⟩
      conv => whnf
      refine AV.of_eqv ?_
      conv => whnf
      refine And.intro (by with_reducible rfl) ?_
      exact True.intro
    · replace hc1 := of_decide_eq_false hc1
      conv => whnf
      refine loop_at (α := Nat × List Fl) [] (fun ⟨i, cur⟩ => [(24, .int .i64 (i : Int)), (0, .sl .sh 3 (cur.map fl)), (5, .sl .sh 3 (cur.map fl))]) (fun ⟨i, cur⟩ => []) (fun ⟨i, cur⟩ => i ≤ l.length ∧ cur.length ≤ 610 + i) (fun ⟨i, cur⟩ => l.length - i) ((0, c)) (st_of ?_) ?_ (by rintro ⟨i, cur⟩ _; rfl) ?_
      · conv => whnf
        refine And.intro (by with_reducible rfl) ?_
        conv => whnf
        refine And.intro (by with_reducible rfl) ?_
        conv => whnf
        refine And.intro (by with_reducible rfl) ?_
        conv => whnf
        refine And.intro (by with_reducible rfl) ?_
        conv => whnf
        refine And.intro (by with_reducible rfl) ?_
        conv => whnf
        refine And.intro (by with_reducible rfl) ?_
        conv => whnf
        refine And.intro (by with_reducible rfl) ?_
        conv => whnf
        refine And.intro (by with_reducible rfl) ?_
        conv => whnf
        refine And.intro (by with_reducible rfl) ?_
        conv => whnf
        refine And.intro (by with_reducible rfl) ?_
        conv => whnf
        refine And.intro (by with_reducible rfl) ?_
        conv => whnf
        refine And.intro (by with_reducible rfl) ?_
        conv => whnf
        refine And.intro (by with_reducible rfl) ?_
        conv => whnf
        refine And.intro (by with_reducible rfl) ?_
        conv => whnf
        refine And.intro (by decide) ?_
        exact True.intro
      · dsimp only
        ((try simp only [map_rows, List.length_cons, List.length_nil, wrap_i64, maxLen_eq] at *); omega)
      · rintro ⟨i, cur⟩ nextl0 hIl0 ihl0
        try dsimp only at hIl0
        conv => whnf
        refine And.intro (fun hc2 => ?_) (fun hc2 => ?_)
        · replace hc2 := of_decide_eq_true hc2
          conv => whnf
          refine And.intro (by omega) ?_
          refine And.intro (by decide) ?_
          refine ex_row (l := l) ?_ fun x hx => ?_
          · ((try simp only [map_rows, List.length_cons, List.length_nil, wrap_i64, maxLen_eq] at *); omega)
          · simp only [toNat_ofNat] at hx
            conv => whnf
            refine And.intro (fun hc4 => ?_) (fun hc4 => ?_)
            · replace hc4 := of_decide_eq_true hc4
              conv => whnf
              refine ⟨_, (put_good _ cur [x.2.1]) ?_ ?_ ?_, ?_⟩
              · exact rfl
              · omega
              · ((try simp only [map_rows, List.length_cons, List.length_nil, wrap_i64, maxLen_eq] at *); omega)
              · conv => whnf
                refine ⟨_, (rput_good _ cur [x.2.1]) ?_ ?_ ?_, ?_⟩
                · exact rfl
                · omega
                · ((try simp only [map_rows, List.length_cons, List.length_nil, wrap_i64, maxLen_eq] at *); omega)
                · conv => whnf
                  refine And.intro (by exact rfl) ?_
                  conv => whnf
                  refine br_l rfl rfl ?_
                  conv => whnf
                  refine br_l rfl rfl ?_
                  conv => whnf
                  refine br_l rfl rfl ?_
                  conv => whnf
                  refine br_r rfl rfl ?_
                  conv => whnf
                  refine And.intro (fun hc5 => ?_) (fun hc5 => ?_)
                  · replace hc5 := of_decide_eq_true (Bool.not_eq_false' _ |>.mp hc5)
                    conv => whnf
                    refine br_l rfl rfl ?_
                    conv => whnf
                    refine br_l rfl rfl ?_
                    conv => whnf
                    refine ⟨_, rsame_good _ _ ?_ ?_, ?_⟩
                    · (have p1 := putE_f cur [x.2.1]; have p2 := takE_f cur x.2.2; have p3 := twiE_f cur x.2.2; (try simp only [map_rows, List.length_cons, List.length_nil, wrap_i64, maxLen_eq] at *); omega)
                    · (have p1 := putE_f cur [x.2.1]; have p2 := takE_f cur x.2.2; have p3 := twiE_f cur x.2.2; (try simp only [map_rows, List.length_cons, List.length_nil, wrap_i64, maxLen_eq] at *); omega)
                    · conv => whnf
                      refine br_l rfl rfl ?_
                      conv => whnf
                      refine br_r rfl rfl ?_
                      conv => whnf
                      refine And.intro (fun hc6 => ?_) (fun hc6 => ?_)
                      · replace hc6 := of_decide_eq_true (Bool.not_eq_false' _ |>.mp hc6)
                        conv => whnf
                        refine br_l rfl rfl ?_
                        conv => whnf
                        refine br_l rfl rfl ?_
                        conv => whnf
                        refine ⟨_, same_good _ _ ?_ ?_, ?_⟩
                        · (have p1 := putE_f cur [x.2.1]; have p2 := takE_f cur x.2.2; have p3 := twiE_f cur x.2.2; (try simp only [map_rows, List.length_cons, List.length_nil, wrap_i64, maxLen_eq] at *); omega)
                        · (have p1 := putE_f cur [x.2.1]; have p2 := takE_f cur x.2.2; have p3 := twiE_f cur x.2.2; (try simp only [map_rows, List.length_cons, List.length_nil, wrap_i64, maxLen_eq] at *); omega)
                        · conv => whnf
                          refine br_l rfl rfl ?_
                          conv => whnf
                          refine br_r rfl rfl ?_
                          conv => whnf
                          refine And.intro (fun hc7 => ?_) (fun hc7 => ?_)
                          · replace hc7 := of_decide_eq_true (Bool.not_eq_false' _ |>.mp hc7)
                            conv => whnf
                            refine br_l rfl rfl ?_
                            conv => whnf
                            refine br_l rfl rfl ?_
                            conv => whnf
                            refine br_l rfl rfl ?_
                            conv => whnf
                            refine br_l rfl rfl ?_
                            conv => whnf
                            refine br_l rfl rfl ?_
                            conv => whnf
                            refine br_l rfl rfl ?_
                            conv => whnf
                            refine br_l rfl rfl ?_
                            conv => whnf
                            refine ⟨_, between_good _ _ _ ?_, ?_⟩
                            · (have p1 := putE_f cur [x.2.1]; have p2 := takE_f cur x.2.2; have p3 := twiE_f cur x.2.2; (try simp only [map_rows, List.length_cons, List.length_nil, wrap_i64, maxLen_eq] at *); omega)
                            · conv => whnf
                              refine br_l rfl rfl ?_
                              conv => whnf
                              refine br_l rfl rfl ?_
                              conv => whnf
                              refine br_l rfl rfl ?_
                              conv => whnf
                              refine br_l rfl rfl ?_
                              conv => whnf
                              refine br_l rfl rfl ?_
                              conv => whnf
                              refine br_l rfl rfl ?_
                              conv => whnf
                              refine br_l rfl rfl ?_
                              conv => whnf
                              refine br_l rfl rfl ?_
                              conv => whnf
                              refine ⟨_, rbetween_good _ _ _ ?_, ?_⟩
                              · (have p1 := putE_f cur [x.2.1]; have p2 := takE_f cur x.2.2; have p3 := twiE_f cur x.2.2; (try simp only [map_rows, List.length_cons, List.length_nil, wrap_i64, maxLen_eq] at *); omega)
                              · conv => whnf
                                refine br_l rfl rfl ?_
                                conv => whnf
                                refine br_r rfl rfl ?_
                                conv => whnf
                                refine And.intro (fun hc8 => ?_) (fun hc8 => ?_)
                                · replace hc8 := of_decide_eq_false (Bool.not_eq_true' _ |>.mp hc8)
                                  contradiction
                                · replace hc8 := of_decide_eq_true (Bool.not_eq_false' _ |>.mp hc8)
                                  conv => whnf
                                  refine ihl0 ((i + 1, putL cur [x.2.1])) _ ?_ ?_ (st_of ?_)
                                  · dsimp only
                                    (have p1 := putE_f cur [x.2.1]; have p2 := takE_f cur x.2.2; have p3 := twiE_f cur x.2.2; (try simp only [map_rows, List.length_cons, List.length_nil, wrap_i64, maxLen_eq] at *); omega)
                                  · dsimp only
                                    ((try simp only [map_rows, List.length_cons, List.length_nil, wrap_i64, maxLen_eq] at *); omega)
                                  · conv => whnf
                                    refine And.intro (by with_reducible rfl) ?_
                                    conv => whnf
                                    refine And.intro (by with_reducible rfl) ?_
                                    conv => whnf
                                    refine And.intro (by with_reducible rfl) ?_
                                    conv => whnf
                                    refine And.intro (by with_reducible rfl) ?_
                                    conv => whnf
                                    refine And.intro (by with_reducible rfl) ?_
                                    conv => whnf
                                    refine And.intro (by with_reducible rfl) ?_
                                    conv => whnf
                                    refine And.intro (by with_reducible rfl) ?_
                                    conv => whnf
                                    refine And.intro (by with_reducible rfl) ?_
                                    conv => whnf
                                    refine And.intro (by with_reducible rfl) ?_
                                    conv => whnf
                                    refine And.intro (by with_reducible rfl) ?_
                                    conv => whnf
                                    refine And.intro (by with_reducible rfl) ?_
                                    conv => whnf
                                    refine And.intro (by with_reducible rfl) ?_
                                    conv => whnf
                                    refine And.intro (by with_reducible rfl) ?_
                                    conv => whnf
                                    refine And.intro (by with_reducible rfl) ?_
                                    conv => whnf
                                    refine And.intro (by ((try simp only [map_rows, List.length_cons, List.length_nil, wrap_i64, maxLen_eq] at *); omega)) ?_
                                    exact True.intro
                          · replace hc7 := of_decide_eq_false (Bool.not_eq_true' _ |>.mp hc7)
                            contradiction
                      · replace hc6 := of_decide_eq_false (Bool.not_eq_true' _ |>.mp hc6)
                        contradiction
                  · replace hc5 := of_decide_eq_false (Bool.not_eq_true' _ |>.mp hc5)
                    contradiction
            · replace hc4 := of_decide_eq_false hc4
              conv => whnf
              refine And.intro (fun hc9 => ?_) (fun hc9 => ?_)
              · replace hc9 := of_decide_eq_true hc9
                conv => whnf
                refine ⟨_, (take_good cur) _ ?_, ?_⟩
                · omega
                · conv => whnf
                  refine ⟨_, (rtake_good cur) _ ?_, ?_⟩
                  · omega
                  · conv => whnf
                    refine And.intro (by exact rfl) ?_
                    conv => whnf
                    refine And.intro (fun hc10 => ?_) (fun hc10 => ?_)
                    · simp only [Bool.not_eq_true', Bool.not_eq_false', Bool.and_eq_true, Bool.and_eq_false_imp, Bool.or_eq_true, Bool.or_eq_false_iff, Bool.and_true, Bool.true_and, Bool.not_true, Bool.not_false, decide_eq_true_eq, decide_eq_false_iff_not, Bool.decide_and] at hc10
                      conv => whnf
                      refine br_l rfl rfl ?_
                      conv => whnf
                      refine br_l rfl rfl ?_
                      conv => whnf
                      refine br_r rfl rfl ?_
                      conv => whnf
                      refine And.intro (fun hc11 => ?_) (fun hc11 => ?_)
                      · replace hc11 := of_decide_eq_true (Bool.not_eq_false' _ |>.mp hc11)
                        conv => whnf
                        refine br_l rfl rfl ?_
                        conv => whnf
                        refine br_l rfl rfl ?_
                        conv => whnf
                        refine ⟨_, rsame_good _ _ ?_ ?_, ?_⟩
                        · (have p1 := putE_f cur [x.2.1]; have p2 := takE_f cur x.2.2; have p3 := twiE_f cur x.2.2; (try simp only [map_rows, List.length_cons, List.length_nil, wrap_i64, maxLen_eq] at *); omega)
                        · (have p1 := putE_f cur [x.2.1]; have p2 := takE_f cur x.2.2; have p3 := twiE_f cur x.2.2; (try simp only [map_rows, List.length_cons, List.length_nil, wrap_i64, maxLen_eq] at *); omega)
                        · conv => whnf
                          refine br_l rfl rfl ?_
                          conv => whnf
                          refine br_r rfl rfl ?_
                          conv => whnf
                          refine And.intro (fun hc12 => ?_) (fun hc12 => ?_)
                          · replace hc12 := of_decide_eq_true (Bool.not_eq_false' _ |>.mp hc12)
                            conv => whnf
                            refine br_l rfl rfl ?_
                            conv => whnf
                            refine br_l rfl rfl ?_
                            conv => whnf
                            refine ⟨_, same_good _ _ ?_ ?_, ?_⟩
                            · (have p1 := putE_f cur [x.2.1]; have p2 := takE_f cur x.2.2; have p3 := twiE_f cur x.2.2; (try simp only [map_rows, List.length_cons, List.length_nil, wrap_i64, maxLen_eq] at *); omega)
                            · (have p1 := putE_f cur [x.2.1]; have p2 := takE_f cur x.2.2; have p3 := twiE_f cur x.2.2; (try simp only [map_rows, List.length_cons, List.length_nil, wrap_i64, maxLen_eq] at *); omega)
                            · conv => whnf
                              refine br_l rfl rfl ?_
                              conv => whnf
                              refine br_r rfl rfl ?_
                              conv => whnf
                              refine And.intro (fun hc13 => ?_) (fun hc13 => ?_)
                              · replace hc13 := of_decide_eq_true (Bool.not_eq_false' _ |>.mp hc13)
                                conv => whnf
                                refine br_l rfl rfl ?_
                                conv => whnf
                                refine br_l rfl rfl ?_
                                conv => whnf
                                refine br_l rfl rfl ?_
                                conv => whnf
                                refine br_l rfl rfl ?_
                                conv => whnf
                                refine br_l rfl rfl ?_
                                conv => whnf
                                refine br_l rfl rfl ?_
                                conv => whnf
                                refine br_l rfl rfl ?_
                                conv => whnf
                                refine ⟨_, between_good _ _ _ ?_, ?_⟩
                                · (have p1 := putE_f cur [x.2.1]; have p2 := takE_f cur x.2.2; have p3 := twiE_f cur x.2.2; (try simp only [map_rows, List.length_cons, List.length_nil, wrap_i64, maxLen_eq] at *); omega)
                                · conv => whnf
                                  refine br_l rfl rfl ?_
                                  conv => whnf
                                  refine br_l rfl rfl ?_
                                  conv => whnf
                                  refine br_l rfl rfl ?_
                                  conv => whnf
                                  refine br_l rfl rfl ?_
                                  conv => whnf
                                  refine br_l rfl rfl ?_
                                  conv => whnf
                                  refine br_l rfl rfl ?_
                                  conv => whnf
                                  refine br_l rfl rfl ?_
                                  conv => whnf
                                  refine br_l rfl rfl ?_
                                  conv => whnf
                                  refine ⟨_, rbetween_good _ _ _ ?_, ?_⟩
                                  · (have p1 := putE_f cur [x.2.1]; have p2 := takE_f cur x.2.2; have p3 := twiE_f cur x.2.2; (try simp only [map_rows, List.length_cons, List.length_nil, wrap_i64, maxLen_eq] at *); omega)
                                  · conv => whnf
                                    refine br_l rfl rfl ?_
                                    conv => whnf
                                    refine br_r rfl rfl ?_
                                    conv => whnf
                                    refine And.intro (fun hc14 => ?_) (fun hc14 => ?_)
                                    · replace hc14 := of_decide_eq_false (Bool.not_eq_true' _ |>.mp hc14)
                                      contradiction
                                    · replace hc14 := of_decide_eq_true (Bool.not_eq_false' _ |>.mp hc14)
                                      conv => whnf
                                      refine ihl0 ((i + 1, takL cur x.2.2)) _ ?_ ?_ (st_of ?_)
                                      · dsimp only
                                        (have p1 := putE_f cur [x.2.1]; have p2 := takE_f cur x.2.2; have p3 := twiE_f cur x.2.2; (try simp only [map_rows, List.length_cons, List.length_nil, wrap_i64, maxLen_eq] at *); omega)
                                      · dsimp only
                                        ((try simp only [map_rows, List.length_cons, List.length_nil, wrap_i64, maxLen_eq] at *); omega)
                                      · conv => whnf
                                        refine And.intro (by with_reducible rfl) ?_
                                        conv => whnf
                                        refine And.intro (by with_reducible rfl) ?_
                                        conv => whnf
                                        refine And.intro (by with_reducible rfl) ?_
                                        conv => whnf
                                        refine And.intro (by with_reducible rfl) ?_
                                        conv => whnf
                                        refine And.intro (by with_reducible rfl) ?_
                                        conv => whnf
                                        refine And.intro (by with_reducible rfl) ?_
                                        conv => whnf
                                        refine And.intro (by with_reducible rfl) ?_
                                        conv => whnf
                                        refine And.intro (by with_reducible rfl) ?_
                                        conv => whnf
                                        refine And.intro (by with_reducible rfl) ?_
                                        conv => whnf
                                        refine And.intro (by with_reducible rfl) ?_
                                        conv => whnf
                                        refine And.intro (by with_reducible rfl) ?_
                                        conv => whnf
                                        refine And.intro (by with_reducible rfl) ?_
                                        conv => whnf
                                        refine And.intro (by with_reducible rfl) ?_
                                        conv => whnf
                                        refine And.intro (by with_reducible rfl) ?_
                                        conv => whnf
                                        refine And.intro (by ((try simp only [map_rows, List.length_cons, List.length_nil, wrap_i64, maxLen_eq] at *); omega)) ?_
                                        exact True.intro
                              · replace hc13 := of_decide_eq_false (Bool.not_eq_true' _ |>.mp hc13)
                                contradiction
                          · replace hc12 := of_decide_eq_false (Bool.not_eq_true' _ |>.mp hc12)
                            contradiction
                      · replace hc11 := of_decide_eq_false (Bool.not_eq_true' _ |>.mp hc11)
                        contradiction
                    · simp only [Bool.not_eq_true', Bool.not_eq_false', Bool.and_eq_true, Bool.and_eq_false_imp, Bool.or_eq_true, Bool.or_eq_false_iff, Bool.and_true, Bool.true_and, Bool.not_true, Bool.not_false, decide_eq_true_eq, decide_eq_false_iff_not, Bool.decide_and] at hc10
                      contradiction
              · replace hc9 := of_decide_eq_false hc9
                conv => whnf
                refine ⟨_, (twice_good cur) _ ?_, ?_⟩
                · omega
                · conv => whnf
                  refine ⟨_, (rtwice_good cur) _ ?_, ?_⟩
                  · omega
                  · conv => whnf
                    refine And.intro (by exact rfl) ?_
                    conv => whnf
                    refine br_l rfl rfl ?_
                    conv => whnf
                    refine br_l rfl rfl ?_
                    conv => whnf
                    refine br_l rfl rfl ?_
                    conv => whnf
                    refine br_r rfl rfl ?_
                    conv => whnf
                    refine And.intro (fun hc15 => ?_) (fun hc15 => ?_)
                    · replace hc15 := of_decide_eq_true (Bool.not_eq_false' _ |>.mp hc15)
                      conv => whnf
                      refine br_l rfl rfl ?_
                      conv => whnf
                      refine br_l rfl rfl ?_
                      conv => whnf
                      refine ⟨_, rsame_good _ _ ?_ ?_, ?_⟩
                      · (have p1 := putE_f cur [x.2.1]; have p2 := takE_f cur x.2.2; have p3 := twiE_f cur x.2.2; (try simp only [map_rows, List.length_cons, List.length_nil, wrap_i64, maxLen_eq] at *); omega)
                      · (have p1 := putE_f cur [x.2.1]; have p2 := takE_f cur x.2.2; have p3 := twiE_f cur x.2.2; (try simp only [map_rows, List.length_cons, List.length_nil, wrap_i64, maxLen_eq] at *); omega)
                      · conv => whnf
                        refine br_l rfl rfl ?_
                        conv => whnf
                        refine br_r rfl rfl ?_
                        conv => whnf
                        refine And.intro (fun hc16 => ?_) (fun hc16 => ?_)
                        · replace hc16 := of_decide_eq_true (Bool.not_eq_false' _ |>.mp hc16)
                          conv => whnf
                          refine br_l rfl rfl ?_
                          conv => whnf
                          refine br_l rfl rfl ?_
                          conv => whnf
                          refine ⟨_, same_good _ _ ?_ ?_, ?_⟩
                          · (have p1 := putE_f cur [x.2.1]; have p2 := takE_f cur x.2.2; have p3 := twiE_f cur x.2.2; (try simp only [map_rows, List.length_cons, List.length_nil, wrap_i64, maxLen_eq] at *); omega)
                          · (have p1 := putE_f cur [x.2.1]; have p2 := takE_f cur x.2.2; have p3 := twiE_f cur x.2.2; (try simp only [map_rows, List.length_cons, List.length_nil, wrap_i64, maxLen_eq] at *); omega)
                          · conv => whnf
                            refine br_l rfl rfl ?_
                            conv => whnf
                            refine br_r rfl rfl ?_
                            conv => whnf
                            refine And.intro (fun hc17 => ?_) (fun hc17 => ?_)
                            · replace hc17 := of_decide_eq_true (Bool.not_eq_false' _ |>.mp hc17)
                              conv => whnf
                              refine br_l rfl rfl ?_
                              conv => whnf
                              refine br_l rfl rfl ?_
                              conv => whnf
                              refine br_l rfl rfl ?_
                              conv => whnf
                              refine br_l rfl rfl ?_
                              conv => whnf
                              refine br_l rfl rfl ?_
                              conv => whnf
                              refine br_l rfl rfl ?_
                              conv => whnf
                              refine br_l rfl rfl ?_
                              conv => whnf
                              refine ⟨_, between_good _ _ _ ?_, ?_⟩
                              · (have p1 := putE_f cur [x.2.1]; have p2 := takE_f cur x.2.2; have p3 := twiE_f cur x.2.2; (try simp only [map_rows, List.length_cons, List.length_nil, wrap_i64, maxLen_eq] at *); omega)
                              · conv => whnf
                                refine br_l rfl rfl ?_
                                conv => whnf
                                refine br_l rfl rfl ?_
                                conv => whnf
                                refine br_l rfl rfl ?_
                                conv => whnf
                                refine br_l rfl rfl ?_
                                conv => whnf
                                refine br_l rfl rfl ?_
                                conv => whnf
                                refine br_l rfl rfl ?_
                                conv => whnf
                                refine br_l rfl rfl ?_
                                conv => whnf
                                refine br_l rfl rfl ?_
                                conv => whnf
                                refine ⟨_, rbetween_good _ _ _ ?_, ?_⟩
                                · (have p1 := putE_f cur [x.2.1]; have p2 := takE_f cur x.2.2; have p3 := twiE_f cur x.2.2; (try simp only [map_rows, List.length_cons, List.length_nil, wrap_i64, maxLen_eq] at *); omega)
                                · conv => whnf
                                  refine br_l rfl rfl ?_
                                  conv => whnf
                                  refine br_r rfl rfl ?_
                                  conv => whnf
                                  refine And.intro (fun hc18 => ?_) (fun hc18 => ?_)
                                  · replace hc18 := of_decide_eq_false (Bool.not_eq_true' _ |>.mp hc18)
                                    contradiction
                                  · replace hc18 := of_decide_eq_true (Bool.not_eq_false' _ |>.mp hc18)
                                    conv => whnf
                                    refine ihl0 ((i + 1, twiL cur x.2.2)) _ ?_ ?_ (st_of ?_)
                                    · dsimp only
                                      (have p1 := putE_f cur [x.2.1]; have p2 := takE_f cur x.2.2; have p3 := twiE_f cur x.2.2; (try simp only [map_rows, List.length_cons, List.length_nil, wrap_i64, maxLen_eq] at *); omega)
                                    · dsimp only
                                      ((try simp only [map_rows, List.length_cons, List.length_nil, wrap_i64, maxLen_eq] at *); omega)
                                    · conv => whnf
                                      refine And.intro (by with_reducible rfl) ?_
                                      conv => whnf
                                      refine And.intro (by with_reducible rfl) ?_
                                      conv => whnf
                                      refine And.intro (by with_reducible rfl) ?_
                                      conv => whnf
                                      refine And.intro (by with_reducible rfl) ?_
                                      conv => whnf
                                      refine And.intro (by with_reducible rfl) ?_
                                      conv => whnf
                                      refine And.intro (by with_reducible rfl) ?_
                                      conv => whnf
                                      refine And.intro (by with_reducible rfl) ?_
                                      conv => whnf
                                      refine And.intro (by with_reducible rfl) ?_
                                      conv => whnf
                                      refine And.intro (by with_reducible rfl) ?_
                                      conv => whnf
                                      refine And.intro (by with_reducible rfl) ?_
                                      conv => whnf
                                      refine And.intro (by with_reducible rfl) ?_
                                      conv => whnf
                                      refine And.intro (by with_reducible rfl) ?_
                                      conv => whnf
                                      refine And.intro (by with_reducible rfl) ?_
                                      conv => whnf
                                      refine And.intro (by with_reducible rfl) ?_
                                      conv => whnf
                                      refine And.intro (by ((try simp only [map_rows, List.length_cons, List.length_nil, wrap_i64, maxLen_eq] at *); omega)) ?_
                                      exact True.intro
                            · replace hc17 := of_decide_eq_false (Bool.not_eq_true' _ |>.mp hc17)
                              contradiction
                        · replace hc16 := of_decide_eq_false (Bool.not_eq_true' _ |>.mp hc16)
                          contradiction
                    · replace hc15 := of_decide_eq_false (Bool.not_eq_true' _ |>.mp hc15)
                      contradiction
        · replace hc2 := of_decide_eq_false hc2
          conv => whnf
          refine ⟨_, most_good, ?_⟩
          conv => whnf
          refine ⟨_, rmost_good, ?_⟩
          conv => whnf
          refine br_l rfl rfl ?_
          conv => whnf
          refine ⟨_, awake40_good, ?_⟩
          conv => whnf
          refine br_l rfl rfl ?_
          conv => whnf
          refine AV.of_eqv ?_
          conv => whnf
          refine And.intro (by with_reducible rfl) ?_
          exact True.intro
  · replace hc0 := of_decide_eq_true hc0
    conv => whnf
    refine br_r rfl rfl ?_
    conv => whnf
    refine br_r rfl rfl ?_
    conv => whnf
    refine br_l rfl rfl ?_
    conv => whnf
    refine br_l rfl rfl ?_
    conv => whnf
    refine ⟨_, awake40_good, ?_⟩
    conv => whnf
    refine AV.of_eqv ?_
    conv => whnf
    refine And.intro (by with_reducible rfl) ?_
    exact True.intro
end Go.Proofs.Ytmchbkmenokkdaa

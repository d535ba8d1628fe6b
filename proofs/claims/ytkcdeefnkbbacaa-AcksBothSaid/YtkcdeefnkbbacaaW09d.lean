/- The laws AcksBack and AcksBoth. -/
import Derived.Test.YtkcdeefnkbbacaaW09b
set_option maxRecDepth 100000
set_option linter.unusedSimpArgs false
set_option linter.unusedVariables false
namespace Go.Proofs.Ytkcdeefnkbbacaa
open Go.RowKit
set_option maxHeartbeats 4000000
/-- what is read is written so -/
theorem ak_forth {s : By} (h : (ard s).2 = 0) : akR (ard s).1.1 (ard s).1.2.1 (ard s).1.2.2.1 (ard s).1.2.2.2.1 (ard s).1.2.2.2.2.1 (ard s).1.2.2.2.2.2.1 (ard s).1.2.2.2.2.2.2 = (s, 0) := by
  unfold ard at h ⊢
  by_cases hl : s.length < 20
  · rw [if_pos hl] at h; exact absurd h (by decide)
  rw [if_neg hl] at h ⊢
  by_cases ho : ((valB 0 (s.take 1) : Nat) : Int) < 16 ∧ s.length = 20
  · rw [if_pos ho]
    have b1 := va1_b (s.drop 19)
    have b2 := va2_b (s.drop 17)
    show akR ((valB 0 (s.take 1) : Nat) : Int) (q4 (s.drop 1) 0) (q4 (s.drop 1) 1) (q4 (s.drop 1) 2) (q4 (s.drop 1) 3) ((valB 0 ((s.drop 17).take 2) : Nat) : Int) ((valB 0 ((s.drop 19).take 1) : Nat) : Int) = (s, 0)
    rw [akR_yes (by omega)]
    have e : akb ((valB 0 (s.take 1) : Nat) : Int) (q4 (s.drop 1) 0) (q4 (s.drop 1) 1) (q4 (s.drop 1) 2) (q4 (s.drop 1) 3) ((valB 0 ((s.drop 17).take 2) : Nat) : Int) ((valB 0 ((s.drop 19).take 1) : Nat) : Int) = s := by
      unfold akb
      rw [nbv s 1 (by omega), pb_q4 (s.drop 1) (by simp; omega), nbv (s.drop 17) 2 (by simp; omega), nbv (s.drop 19) 1 (by simp; omega)]
      have e20 : s.take 20 = s := List.take_of_length_le (by omega)
      conv => rhs; rw [← e20]
      rw [show (20 : Nat) = 1 + 16 + 2 + 1 from rfl, List.take_add, List.take_add, List.take_add]
    rw [e]
  · rw [if_neg ho] at h; exact absurd h (by decide)
/-- what is written is read -/
theorem ak_back {f a b c d n k : Int} (h : okA f n k) (ha : u32b a) (hb : u32b b) (hc : u32b c) (hd : u32b d) : ard (akb f a b c d n k) = ((f, a, b, c, d, n, k), 0) := by
  have hl := akb_len f a b c d n k
  have e : akb f a b c d n k = nb f 1 ++ (pb a b c d ++ (nb n 2 ++ nb k 1)) := by simp [akb, List.append_assoc]
  have e1 : (akb f a b c d n k).take 1 = nb f 1 := by rw [e]; exact takeA (nb_len _ _)
  have d1 : (akb f a b c d n k).drop 1 = pb a b c d ++ (nb n 2 ++ nb k 1) := by rw [e]; exact dropA (nb_len _ _)
  have d17 : (akb f a b c d n k).drop 17 = nb n 2 ++ nb k 1 := by
    rw [show (17 : Nat) = 1 + 16 from rfl, ← List.drop_drop, d1]; exact dropA (pb_len _ _ _ _)
  have d19 : (akb f a b c d n k).drop 19 = nb k 1 := by
    rw [show (19 : Nat) = 17 + 2 from rfl, ← List.drop_drop, d17]; exact dropA (nb_len _ _)
  have v1 : ((valB 0 (nb f 1) : Nat) : Int) = f := vnb h.1 (by rw [pw1]; omega)
  have v2 : ((valB 0 ((nb n 2 ++ nb k 1).take 2) : Nat) : Int) = n := by rw [takeA (nb_len _ _)]; exact vnb h.2.2.1 (by rw [pw2]; omega)
  have v3 : ((valB 0 ((nb k 1).take 1) : Nat) : Int) = k := by rw [List.take_of_length_le (by rw [nb_len]; omega)]; exact vnb h.2.2.2.2.1 (by rw [pw1]; omega)
  obtain ⟨q0, q1, q2, q3⟩ := q4_pb (r := nb n 2 ++ nb k 1) ha hb hc hd
  unfold ard
  rw [if_neg (by omega), if_pos (by rw [e1, v1]; omega)]
  unfold ardV
  rw [e1, d1, d17, d19, v1, v2, v3, q0, q1, q2, q3]
theorem bitB_of {n : Int} {l : List Int} {j : Nat} (hj : j < 8) : bitB ((ofN n l : Nat) : Int) j = l.any fun s => decide (s = n + (j : Int)) := by
  rw [← ofN_bit n l hj, Nat.testBit_eq_decide_div_mod_eq]
  unfold bitB
  exact decide_eq_decide.2 (by norm_cast)
theorem u0 : u32b 0 := by decide
theorem ofB_b (n : Int) (l : List Int) : 0 ≤ ofB n l ∧ ofB n l ≤ 255 := by
  unfold ofB
  have := ofN_lt n l
  split <;> omega
/-- what was told of those that came -/
theorem has_of {n : Int} {l : List Int} {i : Nat} (hn : 0 ≤ n ∧ n ≤ 60000) (hi : i < 8) : hasB n (ofB n l) (n + (i : Int)) = l.any fun s => decide (s = n + (i : Int)) := by
  rw [has_bit (by omega) (by omega), ofB_pos (by omega), show (n + (i : Int) - n).toNat = i by omega]
  exact bitB_of hi
theorem has_8 {n k : Int} (hn : 0 ≤ n ∧ n ≤ 60000) : hasB n k (n + 8) = false := has_no (by omega) (by omega)
abbrev bA : By := [2, 0, 0, 0, 0, 0, 0, 0, 0, 0, 0, 0, 0, 0, 0, 0, 0, 0, 5, 4]
theorem c_of : Good Try.prog 39 [.int .i64 5, .sl .sh 1 [[.int .i64 7], [.int .i64 3], [.int .i64 13]]] (.tuple [.int .i64 5, .int .i64 4]) :=
  (of_good 5 [7, 3, 13] (by decide) (by decide)).eq (by rw [show ofB 5 [7, 3, 13] = 4 by decide])
theorem c_ab : Good Try.prog 38 [eA 2 0 0 0 0 5 4] (.tuple [.str bA, .int .i64 0]) :=
  (abytes_good 2 0 0 0 0 5 4 u0 u0 u0 u0).eq (by rw [akR_yes (by decide)]; rfl)
theorem c_ar : Good Try.prog 37 [.str bA] (.tuple [eA 2 0 0 0 0 5 4, .int .i64 0]) :=
  (aread_good bA).eq (by rw [show ard bA = ((2, 0, 0, 0, 0, 5, 4), 0) from rfl])
theorem c_arx : Good Try.prog 37 [.str (bA ++ [120])] (.tuple [eA 0 0 0 0 0 0 0, .int .i64 3]) :=
  (aread_good (bA ++ [120])).eq (by rw [show ard (bA ++ [120]) = ((0, 0, 0, 0, 0, 0, 0), 3) from rfl])
theorem c_h4 : Good Try.prog 40 [eA 2 0 0 0 0 5 4, .int .i64 4] (.bool true) := (has_good 2 0 0 0 0 5 4 4).eq (by rw [show hasB 5 4 4 = true by decide])
theorem c_h5 : Good Try.prog 40 [eA 2 0 0 0 0 5 4, .int .i64 5] (.bool false) := (has_good 2 0 0 0 0 5 4 5).eq (by rw [show hasB 5 4 5 = false by decide])
theorem c_h7 : Good Try.prog 40 [eA 2 0 0 0 0 5 4, .int .i64 7] (.bool true) := (has_good 2 0 0 0 0 5 4 7).eq (by rw [show hasB 5 4 7 = true by decide])
theorem c_h13 : Good Try.prog 40 [eA 2 0 0 0 0 5 4, .int .i64 13] (.bool false) := (has_good 2 0 0 0 0 5 4 13).eq (by rw [show hasB 5 4 13 = false by decide])
theorem c_aok : Good Try.prog 45 [eA 2 0 0 0 0 5 4] (.bool true) := (aright_good 2 0 0 0 0 5 4).eq (by rw [decide_eq_true (by decide)])
theorem c_ano : Good Try.prog 45 [eA 0 0 0 0 0 0 256] (.bool false) := (aright_good 0 0 0 0 0 0 256).eq (by rw [decide_eq_false (by decide)])
theorem awake9_good : Good Try.prog 36 [] (.bool true) := by
  apply good_at ak36 rfl rfl rfl
  conv => whnf
  refine ⟨_, c_of, ?_⟩
  conv => whnf
  refine ⟨_, c_ab, ?_⟩
  conv => whnf
  refine ⟨_, c_ar, ?_⟩
  conv => whnf
  refine And.intro (by decide) ?_
  conv => whnf
  refine ⟨_, c_arx, ?_⟩
  conv => whnf
  refine br_l rfl rfl ?_
  conv => whnf
  refine br_l rfl rfl ?_
  conv => whnf
  refine br_l rfl rfl ?_
  conv => whnf
  refine br_l rfl rfl ?_
  conv => whnf
  refine br_l rfl rfl ?_
  conv => whnf
  refine br_l rfl rfl ?_
  conv => whnf
  refine br_l rfl rfl ?_
  conv => whnf
  refine br_l rfl rfl ?_
  conv => whnf
  refine br_l rfl rfl ?_
  conv => whnf
  refine br_l rfl rfl ?_
  conv => whnf
  refine br_l rfl rfl ?_
  conv => whnf
  refine br_l rfl rfl ?_
  conv => whnf
  refine br_l rfl rfl ?_
  conv => whnf
  refine br_l rfl rfl ?_
  conv => whnf
  refine br_l rfl rfl ?_
  conv => whnf
  refine br_l rfl rfl ?_
  conv => whnf
  refine br_l rfl rfl ?_
  conv => whnf
  refine br_l rfl rfl ?_
  conv => whnf
  refine br_l rfl rfl ?_
  conv => whnf
  refine br_l rfl rfl ?_
  conv => whnf
  refine br_l rfl rfl ?_
  conv => whnf
  refine br_l rfl rfl ?_
  conv => whnf
  refine ⟨_, c_h4, ?_⟩
  conv => whnf
  refine br_l rfl rfl ?_
  conv => whnf
  refine br_l rfl rfl ?_
  conv => whnf
  refine br_l rfl rfl ?_
  conv => whnf
  refine ⟨_, c_h5, ?_⟩
  conv => whnf
  refine br_l rfl rfl ?_
  conv => whnf
  refine br_l rfl rfl ?_
  conv => whnf
  refine br_l rfl rfl ?_
  conv => whnf
  refine br_l rfl rfl ?_
  conv => whnf
  refine ⟨_, c_h7, ?_⟩
  conv => whnf
  refine br_l rfl rfl ?_
  conv => whnf
  refine br_l rfl rfl ?_
  conv => whnf
  refine br_l rfl rfl ?_
  conv => whnf
  refine ⟨_, c_h13, ?_⟩
  conv => whnf
  refine br_l rfl rfl ?_
  conv => whnf
  refine br_l rfl rfl ?_
  conv => whnf
  refine br_l rfl rfl ?_
  conv => whnf
  refine br_l rfl rfl ?_
  conv => whnf
  refine ⟨_, c_aok, ?_⟩
  conv => whnf
  refine br_l rfl rfl ?_
  conv => whnf
  refine br_l rfl rfl ?_
  conv => whnf
  refine br_l rfl rfl ?_
  conv => whnf
  refine ⟨_, c_ano, ?_⟩
  conv => whnf
  refine br_l rfl rfl ?_
  conv => whnf
  refine br_l rfl rfl ?_
  conv => whnf
  refine AV.of_eqv ?_
  conv => whnf
  refine And.intro (by decide) ?_
  exact True.intro
theorem any_at {l : List Int} {i : Nat} {x : Int} (p : Int → Bool) (h : l[i]? = some x) : (l.take (i + 1)).any p = ((l.take i).any p || p x) := by
  rw [take_at h, List.any_append]; simp
theorem both_next (x y : Ak) : (bothA x y).2.2.2.2.2.1 = (if x.2.2.2.2.2.1 < y.2.2.2.2.2.1 then y.2.2.2.2.2.1 else x.2.2.2.2.2.1) := by
  unfold bothA
  simp only
  split <;> rfl
theorem any_n {l : List Int} {i : Nat} {x : Int} {p : Int → Bool} (h : l[i]? = some x) (hf : (l.take i).any p = false) : p x = (l.take (i + 1)).any p := by rw [any_at p h, hf, Bool.false_or]
theorem any_y {l : List Int} {i : Nat} {x : Int} {p : Int → Bool} (h : l[i]? = some x) (hf : (l.take i).any p = true) : true = (l.take (i + 1)).any p := by rw [any_at p h, hf, Bool.true_or]
theorem ard_u (s : By) : u32b (ard s).1.2.1 ∧ u32b (ard s).1.2.2.1 ∧ u32b (ard s).1.2.2.2.1 ∧ u32b (ard s).1.2.2.2.2.1 := by
  unfold ard
  split
  · exact ⟨u0, u0, u0, u0⟩
  split
  · exact ⟨q4_b _ _, q4_b _ _, q4_b _ _, q4_b _ _⟩
  · exact ⟨u0, u0, u0, u0⟩
theorem fwd_good {s : By} (h : (ard s).2 = 0) : Good Try.prog 38 [aA (ard s).1] (.tuple [.str s, .int .i64 0]) := by
  obtain ⟨a, b, c, d⟩ := ard_u s
  exact (abytes_good _ _ _ _ _ _ _ a b c d).eq (by rw [ak_forth h])
theorem ok1 {n : Int} {l : List Int} (hn : 0 ≤ n ∧ n ≤ 60000) : okA 1 n (ofB n l) := by have := ofB_b n l; unfold okA; omega
theorem b1_good {n : Int} {l : List Int} (hn : 0 ≤ n ∧ n ≤ 60000) : Good Try.prog 38 [eA 1 0 0 0 0 n (ofB n l)] (.tuple [.str (akb 1 0 0 0 0 n (ofB n l)), .int .i64 0]) :=
  (abytes_good 1 0 0 0 0 n (ofB n l) u0 u0 u0 u0).eq (by rw [akR_yes (ok1 hn)])
theorem r1_good {n : Int} {l : List Int} (hn : 0 ≤ n ∧ n ≤ 60000) : Good Try.prog 37 [.str (akb 1 0 0 0 0 n (ofB n l))] (.tuple [eA 1 0 0 0 0 n (ofB n l), .int .i64 0]) :=
  (aread_good (akb 1 0 0 0 0 n (ofB n l))).eq (by rw [ak_back (ok1 hn) u0 u0 u0 u0])
theorem s1_good {n : Int} {l : List Int} {i : Nat} (hn : 0 ≤ n ∧ n ≤ 60000) (hi : n + (i : Int) < IntKind.i64.wrap (n + 8)) : Good Try.prog 40 [eA 1 0 0 0 0 n (ofB n l), .int .i64 (n + (i : Int))] (.bool (l.any fun s => decide (s = n + (i : Int)))) :=
  (has_good 1 0 0 0 0 n (ofB n l) (n + (i : Int))).eq (by rw [has_of hn (by simp only [wrap_i64] at hi; omega)])
theorem s8_good {n : Int} {l : List Int} (hn : 0 ≤ n ∧ n ≤ 60000) : Good Try.prog 40 [eA 1 0 0 0 0 n (ofB n l), .int .i64 (IntKind.i64.wrap (n + 8))] (.bool false) :=
  (has_good 1 0 0 0 0 n (ofB n l) _).eq (by rw [show IntKind.i64.wrap (n + 8) = n + 8 by rw [wrap_i64]; omega, has_8 hn])
theorem sm_good {n : Int} {l : List Int} (hn : 0 ≤ n ∧ n ≤ 60000) : Good Try.prog 40 [eA 1 0 0 0 0 n (ofB n l), .int .i64 (IntKind.i64.wrap (n - 1))] (.bool true) :=
  (has_good 1 0 0 0 0 n (ofB n l) _).eq (by rw [show IntKind.i64.wrap (n - 1) = n - 1 by rw [wrap_i64]; omega, has_lt (by omega)])
theorem m6_b (x : Int) : 0 ≤ IntKind.i64.wrap ((IntKind.u64.wrap x).tmod 60000) ∧ IntKind.i64.wrap ((IntKind.u64.wrap x).tmod 60000) ≤ 60000 := by
  have h0 : 0 ≤ IntKind.u64.wrap x := by rw [wrap_u64]; omega
  have h1 := Int.tmod_nonneg 60000 h0
  have h2 := Int.tmod_lt_of_pos (IntKind.u64.wrap x) (b := 60000) (by omega)
  rw [wrap_i64]; omega
theorem acksBack_good (s : By) (x : Int) (l : List Int) (hb : ∀ s ∈ l, s ≤ 9223372036854775807) : Good Try.prog 7 [.str s, .int .i64 x, .sl .sh 1 (l.map i1)] (.bool true) := by
  have hn := m6_b x
  apply good_at ak7 rfl rfl rfl
  conv => whnf
  refine And.intro (fun hc0 => ?_) (fun hc0 => ?_)
  · replace hc0 := of_decide_eq_false hc0
    conv => whnf
    refine br_l rfl rfl ?_
    conv => whnf
    refine br_l rfl rfl ?_
    conv => whnf
    refine br_r rfl rfl ?_
    conv => whnf
    refine And.intro (fun hc1 => ?_) (fun hc1 => ?_)
    · replace hc1 := of_decide_eq_true hc1
      conv => whnf
      refine ⟨_, awake9_good, ?_⟩
      conv => whnf
      refine AV.of_eqv ?_
      conv => whnf
      refine And.intro (by with_reducible rfl) ?_
      exact True.intro
    · replace hc1 := of_decide_eq_false hc1
      conv => whnf
      refine ⟨_, aread_good _, ?_⟩
      conv => whnf
      refine And.intro (fun hc2 => ?_) (fun hc2 => ?_)
      · replace hc2 := of_decide_eq_true hc2
        conv => whnf
        refine ⟨_, fwd_good ?_, ?_⟩
        · assumption
        · conv => whnf
          refine br_l rfl rfl ?_
          conv => whnf
          refine br_l rfl rfl ?_
          conv => whnf
          refine br_l rfl rfl ?_
          conv => whnf
          refine br_r rfl rfl ?_
          conv => whnf
          refine And.intro (fun hc3 => ?_) (fun hc3 => ?_)
          · replace hc3 := of_decide_eq_false (Bool.not_eq_true' _ |>.mp hc3)
            contradiction
          · replace hc3 := of_decide_eq_true (Bool.not_eq_false' _ |>.mp hc3)
            conv => whnf
            refine And.intro (by decide) ?_
            conv => whnf
            refine ⟨_, of_good _ _ ?_ ?_, ?_⟩
            · (simp only [map_rows] at *; omega)
            · assumption
            · conv => whnf
              refine ⟨_, b1_good ?_, ?_⟩
              · assumption
              · conv => whnf
                refine ⟨_, r1_good ?_, ?_⟩
                · assumption
                · conv => whnf
                  refine br_l rfl rfl ?_
                  conv => whnf
                  refine br_l rfl rfl ?_
                  conv => whnf
                  refine br_r rfl rfl ?_
                  conv => whnf
                  refine br_l rfl rfl ?_
                  conv => whnf
                  refine br_l rfl rfl ?_
                  conv => whnf
                  refine br_l rfl rfl ?_
                  conv => whnf
                  refine br_r rfl rfl ?_
                  conv => whnf
                  refine And.intro (fun hc4 => ?_) (fun hc4 => ?_)
                  · simp only [Bool.not_eq_true', Bool.not_eq_false', Bool.and_eq_true, Bool.and_eq_false_imp, Bool.or_eq_true, Bool.or_eq_false_iff, Bool.and_true, Bool.true_and, Bool.not_true, Bool.not_false, decide_eq_true_eq, decide_eq_false_iff_not, Bool.decide_and] at hc4
                    contradiction
                  · simp only [Bool.not_eq_true', Bool.not_eq_false', Bool.and_eq_true, Bool.and_eq_false_imp, Bool.or_eq_true, Bool.or_eq_false_iff, Bool.and_true, Bool.true_and, Bool.not_true, Bool.not_false, decide_eq_true_eq, decide_eq_false_iff_not, Bool.decide_and] at hc4
                    conv => whnf
                    refine loop_at (α := Nat) [] (fun i => [(18, .int .i64 (IntKind.i64.wrap ((IntKind.u64.wrap x).tmod 60000) + (i : Int)))]) (fun i => []) (fun i => i ≤ 8) (fun i => 8 - i) (0) (st_of ?_) ?_ (by rintro i _; rfl) ?_
                    · conv => whnf
                      refine And.intro (by with_reducible rfl) ?_
                      conv => whnf
                      refine And.intro (by with_reducible rfl) ?_
                      conv => whnf
                      refine And.intro (by with_reducible rfl) ?_
                      conv => whnf
                      refine And.intro (by with_reducible rfl) ?_
                      refine And.intro (by with_reducible rfl) ?_
                      conv => whnf
                      refine And.intro (by with_reducible rfl) ?_
                      conv => whnf
                      refine And.intro (by with_reducible rfl) ?_
                      conv => whnf
                      refine And.intro (by with_reducible rfl) ?_
                      conv => whnf
                      refine And.intro (by with_reducible rfl) ?_
                      conv => whnf
                      refine And.intro (by with_reducible rfl) ?_
                      conv => whnf
                      refine And.intro (by with_reducible rfl) ?_
                      refine And.intro (by with_reducible rfl) ?_
                      conv => whnf
                      refine And.intro (by with_reducible rfl) ?_
                      conv => whnf
                      refine And.intro (by with_reducible rfl) ?_
                      conv => whnf
                      refine And.intro (by with_reducible rfl) ?_
                      refine And.intro (by with_reducible rfl) ?_
                      conv => whnf
                      refine And.intro (by with_reducible rfl) ?_
                      conv => whnf
                      refine And.intro (by omega) ?_
                      conv => whnf
                      refine And.intro (by with_reducible rfl) ?_
                      conv => whnf
                      refine And.intro (by with_reducible rfl) ?_
                      conv => whnf
                      refine And.intro (by with_reducible rfl) ?_
                      conv => whnf
                      refine And.intro (by with_reducible rfl) ?_
                      conv => whnf
                      refine And.intro (by with_reducible rfl) ?_
                      conv => whnf
                      refine And.intro (by with_reducible rfl) ?_
                      conv => whnf
                      refine And.intro (by with_reducible rfl) ?_
                      conv => whnf
                      refine And.intro (by with_reducible rfl) ?_
                      conv => whnf
                      refine And.intro (by with_reducible rfl) ?_
                      conv => whnf
                      refine And.intro (by with_reducible rfl) ?_
                      conv => whnf
                      refine And.intro (by with_reducible rfl) ?_
                      conv => whnf
                      refine And.intro (by with_reducible rfl) ?_
                      conv => whnf
                      refine And.intro (by with_reducible rfl) ?_
                      conv => whnf
                      refine And.intro (by with_reducible rfl) ?_
                      conv => whnf
                      refine And.intro (by with_reducible rfl) ?_
                      conv => whnf
                      refine And.intro (by with_reducible rfl) ?_
                      conv => whnf
                      refine And.intro (by with_reducible rfl) ?_
                      conv => whnf
                      refine And.intro (by with_reducible rfl) ?_
                      conv => whnf
                      refine And.intro (by with_reducible rfl) ?_
                      conv => whnf
                      refine And.intro (by with_reducible rfl) ?_
                      conv => whnf
                      refine And.intro (by with_reducible rfl) ?_
                      conv => whnf
                      refine And.intro (by with_reducible rfl) ?_
                      conv => whnf
                      refine And.intro (by with_reducible rfl) ?_
                      conv => whnf
                      refine And.intro (by with_reducible rfl) ?_
                      conv => whnf
                      refine And.intro (by with_reducible rfl) ?_
                      conv => whnf
                      refine And.intro (by with_reducible rfl) ?_
                      conv => whnf
                      refine And.intro (by with_reducible rfl) ?_
                      conv => whnf
                      refine And.intro (by with_reducible rfl) ?_
                      conv => whnf
                      refine And.intro (by with_reducible rfl) ?_
                      conv => whnf
                      refine And.intro (by with_reducible rfl) ?_
                      conv => whnf
                      refine And.intro (by with_reducible rfl) ?_
                      conv => whnf
                      refine And.intro (by with_reducible rfl) ?_
                      conv => whnf
                      refine And.intro (by with_reducible rfl) ?_
                      conv => whnf
                      refine And.intro (by with_reducible rfl) ?_
                      conv => whnf
                      refine And.intro (by with_reducible rfl) ?_
                      conv => whnf
                      refine And.intro (by with_reducible rfl) ?_
                      conv => whnf
                      refine And.intro (by with_reducible rfl) ?_
                      conv => whnf
                      refine And.intro (by with_reducible rfl) ?_
                      conv => whnf
                      refine And.intro (by with_reducible rfl) ?_
                      conv => whnf
                      refine And.intro (by with_reducible rfl) ?_
                      conv => whnf
                      refine And.intro (by with_reducible rfl) ?_
                      conv => whnf
                      refine And.intro (by with_reducible rfl) ?_
                      conv => whnf
                      refine And.intro (by with_reducible rfl) ?_
                      conv => whnf
                      refine And.intro (by with_reducible rfl) ?_
                      conv => whnf
                      refine And.intro (by with_reducible rfl) ?_
                      conv => whnf
                      refine And.intro (by with_reducible rfl) ?_
                      conv => whnf
                      refine And.intro (by with_reducible rfl) ?_
                      conv => whnf
                      refine And.intro (by with_reducible rfl) ?_
                      conv => whnf
                      refine And.intro (by with_reducible rfl) ?_
                      conv => whnf
                      refine And.intro (by with_reducible rfl) ?_
                      conv => whnf
                      refine And.intro (by with_reducible rfl) ?_
                      conv => whnf
                      refine And.intro (by with_reducible rfl) ?_
                      conv => whnf
                      refine And.intro (by with_reducible rfl) ?_
                      conv => whnf
                      refine And.intro (by with_reducible rfl) ?_
                      conv => whnf
                      refine And.intro (by with_reducible rfl) ?_
                      conv => whnf
                      refine And.intro (by with_reducible rfl) ?_
                      conv => whnf
                      refine And.intro (by with_reducible rfl) ?_
                      conv => whnf
                      refine And.intro (by with_reducible rfl) ?_
                      conv => whnf
                      refine And.intro (by with_reducible rfl) ?_
                      conv => whnf
                      refine And.intro (by with_reducible rfl) ?_
                      conv => whnf
                      refine And.intro (by with_reducible rfl) ?_
                      conv => whnf
                      refine And.intro (by with_reducible rfl) ?_
                      conv => whnf
                      refine And.intro (by with_reducible rfl) ?_
                      conv => whnf
                      refine And.intro (by with_reducible rfl) ?_
                      conv => whnf
                      refine And.intro (by with_reducible rfl) ?_
                      conv => whnf
                      refine And.intro (by with_reducible rfl) ?_
                      conv => whnf
                      refine And.intro (by with_reducible rfl) ?_
                      conv => whnf
                      refine And.intro (by with_reducible rfl) ?_
                      conv => whnf
                      refine And.intro (by with_reducible rfl) ?_
                      conv => whnf
                      refine And.intro (by with_reducible rfl) ?_
                      conv => whnf
                      refine And.intro (by with_reducible rfl) ?_
                      conv => whnf
                      refine And.intro (by with_reducible rfl) ?_
                      conv => whnf
                      refine And.intro (by with_reducible rfl) ?_
                      conv => whnf
                      refine And.intro (by with_reducible rfl) ?_
                      conv => whnf
                      refine And.intro (by with_reducible rfl) ?_
                      conv => whnf
                      refine And.intro (by with_reducible rfl) ?_
                      conv => whnf
                      refine And.intro (by with_reducible rfl) ?_
                      conv => whnf
                      refine And.intro (by with_reducible rfl) ?_
                      conv => whnf
                      refine And.intro (by with_reducible rfl) ?_
                      conv => whnf
                      refine And.intro (by with_reducible rfl) ?_
                      conv => whnf
                      refine And.intro (by with_reducible rfl) ?_
                      conv => whnf
                      refine And.intro (by with_reducible rfl) ?_
                      conv => whnf
                      refine And.intro (by with_reducible rfl) ?_
                      conv => whnf
                      refine And.intro (by with_reducible rfl) ?_
                      conv => whnf
                      refine And.intro (by with_reducible rfl) ?_
                      conv => whnf
                      refine And.intro (by with_reducible rfl) ?_
                      conv => whnf
                      refine And.intro (by with_reducible rfl) ?_
                      conv => whnf
                      refine And.intro (by with_reducible rfl) ?_
                      conv => whnf
                      refine And.intro (by with_reducible rfl) ?_
                      conv => whnf
                      refine And.intro (by with_reducible rfl) ?_
                      conv => whnf
                      refine And.intro (by with_reducible rfl) ?_
                      conv => whnf
                      refine And.intro (by with_reducible rfl) ?_
                      conv => whnf
                      refine And.intro (by with_reducible rfl) ?_
                      conv => whnf
                      refine And.intro (by with_reducible rfl) ?_
                      conv => whnf
                      refine And.intro (by with_reducible rfl) ?_
                      conv => whnf
                      refine And.intro (by with_reducible rfl) ?_
                      conv => whnf
                      refine And.intro (by with_reducible rfl) ?_
                      conv => whnf
                      refine And.intro (by with_reducible rfl) ?_
                      conv => whnf
                      refine And.intro (by with_reducible rfl) ?_
                      conv => whnf
                      refine And.intro (by with_reducible rfl) ?_
                      conv => whnf
                      refine And.intro (by with_reducible rfl) ?_
                      conv => whnf
                      refine And.intro (by with_reducible rfl) ?_
                      conv => whnf
                      refine And.intro (by with_reducible rfl) ?_
                      conv => whnf
                      refine And.intro (by with_reducible rfl) ?_
                      conv => whnf
                      refine And.intro (by with_reducible rfl) ?_
                      conv => whnf
                      refine And.intro (by with_reducible rfl) ?_
                      conv => whnf
                      refine And.intro (by with_reducible rfl) ?_
                      conv => whnf
                      refine And.intro (by with_reducible rfl) ?_
                      conv => whnf
                      refine And.intro (by with_reducible rfl) ?_
                      conv => whnf
                      refine And.intro (by with_reducible rfl) ?_
                      conv => whnf
                      refine And.intro (by with_reducible rfl) ?_
                      conv => whnf
                      refine And.intro (by with_reducible rfl) ?_
                      conv => whnf
                      refine And.intro (by with_reducible rfl) ?_
                      conv => whnf
                      refine And.intro (by with_reducible rfl) ?_
                      conv => whnf
                      refine And.intro (by with_reducible rfl) ?_
                      conv => whnf
                      refine And.intro (by with_reducible rfl) ?_
                      conv => whnf
                      refine And.intro (by with_reducible rfl) ?_
                      conv => whnf
                      refine And.intro (by with_reducible rfl) ?_
                      conv => whnf
                      refine And.intro (by with_reducible rfl) ?_
                      conv => whnf
                      refine And.intro (by with_reducible rfl) ?_
                      conv => whnf
                      refine And.intro (by with_reducible rfl) ?_
                      conv => whnf
                      refine And.intro (by with_reducible rfl) ?_
                      conv => whnf
                      refine And.intro (by with_reducible rfl) ?_
                      conv => whnf
                      refine And.intro (by with_reducible rfl) ?_
                      conv => whnf
                      refine And.intro (by with_reducible rfl) ?_
                      conv => whnf
                      refine And.intro (by with_reducible rfl) ?_
                      conv => whnf
                      refine And.intro (by with_reducible rfl) ?_
                      conv => whnf
                      refine And.intro (by with_reducible rfl) ?_
                      conv => whnf
                      refine And.intro (by with_reducible rfl) ?_
                      conv => whnf
                      refine And.intro (by with_reducible rfl) ?_
                      conv => whnf
                      refine And.intro (by with_reducible rfl) ?_
                      conv => whnf
                      refine And.intro (by with_reducible rfl) ?_
                      conv => whnf
                      refine And.intro (by with_reducible rfl) ?_
                      conv => whnf
                      refine And.intro (by with_reducible rfl) ?_
                      conv => whnf
                      refine And.intro (by with_reducible rfl) ?_
                      conv => whnf
                      refine And.intro (by with_reducible rfl) ?_
                      conv => whnf
                      refine And.intro (by with_reducible rfl) ?_
                      conv => whnf
                      refine And.intro (by with_reducible rfl) ?_
                      conv => whnf
                      refine And.intro (by with_reducible rfl) ?_
                      conv => whnf
                      refine And.intro (by with_reducible rfl) ?_
                      conv => whnf
                      refine And.intro (by with_reducible rfl) ?_
                      conv => whnf
                      refine And.intro (by with_reducible rfl) ?_
                      conv => whnf
                      refine And.intro (by with_reducible rfl) ?_
                      conv => whnf
                      refine And.intro (by with_reducible rfl) ?_
                      conv => whnf
                      refine And.intro (by with_reducible rfl) ?_
                      conv => whnf
                      refine And.intro (by with_reducible rfl) ?_
                      conv => whnf
                      refine And.intro (by with_reducible rfl) ?_
                      conv => whnf
                      refine And.intro (by with_reducible rfl) ?_
                      conv => whnf
                      refine And.intro (by with_reducible rfl) ?_
                      conv => whnf
                      refine And.intro (by with_reducible rfl) ?_
                      conv => whnf
                      refine And.intro (by with_reducible rfl) ?_
                      conv => whnf
                      refine And.intro (by with_reducible rfl) ?_
                      conv => whnf
                      refine And.intro (by with_reducible rfl) ?_
                      conv => whnf
                      refine And.intro (by with_reducible rfl) ?_
                      conv => whnf
                      refine And.intro (by with_reducible rfl) ?_
                      conv => whnf
                      refine And.intro (by with_reducible rfl) ?_
                      conv => whnf
                      refine And.intro (by with_reducible rfl) ?_
                      conv => whnf
                      refine And.intro (by with_reducible rfl) ?_
                      conv => whnf
                      refine And.intro (by with_reducible rfl) ?_
                      exact True.intro
                    · decide
                    · rintro i nextl0 hIl0 ihl0
                      try dsimp only at hIl0
                      conv => whnf
                      refine And.intro (fun hc5 => ?_) (fun hc5 => ?_)
                      · replace hc5 := of_decide_eq_true hc5
                        conv => whnf
                        refine loop_at (α := Nat) [] (fun j => [(93, .int .i64 (j : Int)), (19, .bool ((l.take j).any fun s => decide (s = IntKind.i64.wrap ((IntKind.u64.wrap x).tmod 60000) + (i : Int))))]) (fun j => []) (fun j => j ≤ l.length) (fun j => l.length - j) (0) (st_of ?_) ?_ (by rintro j _; rfl) ?_
                        · conv => whnf
                          refine And.intro (by with_reducible rfl) ?_
                          conv => whnf
                          refine And.intro (by with_reducible rfl) ?_
                          conv => whnf
                          refine And.intro (by with_reducible rfl) ?_
                          conv => whnf
                          refine And.intro (by with_reducible rfl) ?_
                          refine And.intro (by with_reducible rfl) ?_
                          conv => whnf
                          refine And.intro (by with_reducible rfl) ?_
                          conv => whnf
                          refine And.intro (by with_reducible rfl) ?_
                          conv => whnf
                          refine And.intro (by with_reducible rfl) ?_
                          conv => whnf
                          refine And.intro (by with_reducible rfl) ?_
                          conv => whnf
                          refine And.intro (by with_reducible rfl) ?_
                          conv => whnf
                          refine And.intro (by with_reducible rfl) ?_
                          refine And.intro (by with_reducible rfl) ?_
                          conv => whnf
                          refine And.intro (by with_reducible rfl) ?_
                          conv => whnf
                          refine And.intro (by with_reducible rfl) ?_
                          conv => whnf
                          refine And.intro (by with_reducible rfl) ?_
                          refine And.intro (by with_reducible rfl) ?_
                          conv => whnf
                          refine And.intro (by with_reducible rfl) ?_
                          conv => whnf
                          refine And.intro (by with_reducible rfl) ?_
                          conv => whnf
                          refine And.intro (by (simp; done)) ?_
                          conv => whnf
                          refine And.intro (by with_reducible rfl) ?_
                          conv => whnf
                          refine And.intro (by with_reducible rfl) ?_
                          conv => whnf
                          refine And.intro (by with_reducible rfl) ?_
                          conv => whnf
                          refine And.intro (by with_reducible rfl) ?_
                          conv => whnf
                          refine And.intro (by with_reducible rfl) ?_
                          conv => whnf
                          refine And.intro (by with_reducible rfl) ?_
                          conv => whnf
                          refine And.intro (by with_reducible rfl) ?_
                          conv => whnf
                          refine And.intro (by with_reducible rfl) ?_
                          conv => whnf
                          refine And.intro (by with_reducible rfl) ?_
                          conv => whnf
                          refine And.intro (by with_reducible rfl) ?_
                          conv => whnf
                          refine And.intro (by with_reducible rfl) ?_
                          conv => whnf
                          refine And.intro (by with_reducible rfl) ?_
                          conv => whnf
                          refine And.intro (by with_reducible rfl) ?_
                          conv => whnf
                          refine And.intro (by with_reducible rfl) ?_
                          conv => whnf
                          refine And.intro (by with_reducible rfl) ?_
                          conv => whnf
                          refine And.intro (by with_reducible rfl) ?_
                          conv => whnf
                          refine And.intro (by with_reducible rfl) ?_
                          conv => whnf
                          refine And.intro (by with_reducible rfl) ?_
                          conv => whnf
                          refine And.intro (by with_reducible rfl) ?_
                          conv => whnf
                          refine And.intro (by with_reducible rfl) ?_
                          conv => whnf
                          refine And.intro (by with_reducible rfl) ?_
                          conv => whnf
                          refine And.intro (by with_reducible rfl) ?_
                          conv => whnf
                          refine And.intro (by with_reducible rfl) ?_
                          conv => whnf
                          refine And.intro (by with_reducible rfl) ?_
                          conv => whnf
                          refine And.intro (by with_reducible rfl) ?_
                          conv => whnf
                          refine And.intro (by with_reducible rfl) ?_
                          conv => whnf
                          refine And.intro (by with_reducible rfl) ?_
                          conv => whnf
                          refine And.intro (by with_reducible rfl) ?_
                          conv => whnf
                          refine And.intro (by with_reducible rfl) ?_
                          conv => whnf
                          refine And.intro (by with_reducible rfl) ?_
                          conv => whnf
                          refine And.intro (by with_reducible rfl) ?_
                          conv => whnf
                          refine And.intro (by with_reducible rfl) ?_
                          conv => whnf
                          refine And.intro (by with_reducible rfl) ?_
                          conv => whnf
                          refine And.intro (by with_reducible rfl) ?_
                          conv => whnf
                          refine And.intro (by with_reducible rfl) ?_
                          conv => whnf
                          refine And.intro (by with_reducible rfl) ?_
                          conv => whnf
                          refine And.intro (by with_reducible rfl) ?_
                          conv => whnf
                          refine And.intro (by with_reducible rfl) ?_
                          conv => whnf
                          refine And.intro (by with_reducible rfl) ?_
                          conv => whnf
                          refine And.intro (by with_reducible rfl) ?_
                          conv => whnf
                          refine And.intro (by with_reducible rfl) ?_
                          conv => whnf
                          refine And.intro (by with_reducible rfl) ?_
                          conv => whnf
                          refine And.intro (by with_reducible rfl) ?_
                          conv => whnf
                          refine And.intro (by with_reducible rfl) ?_
                          conv => whnf
                          refine And.intro (by with_reducible rfl) ?_
                          conv => whnf
                          refine And.intro (by with_reducible rfl) ?_
                          conv => whnf
                          refine And.intro (by with_reducible rfl) ?_
                          conv => whnf
                          refine And.intro (by with_reducible rfl) ?_
                          conv => whnf
                          refine And.intro (by with_reducible rfl) ?_
                          conv => whnf
                          refine And.intro (by with_reducible rfl) ?_
                          conv => whnf
                          refine And.intro (by with_reducible rfl) ?_
                          conv => whnf
                          refine And.intro (by with_reducible rfl) ?_
                          conv => whnf
                          refine And.intro (by with_reducible rfl) ?_
                          conv => whnf
                          refine And.intro (by with_reducible rfl) ?_
                          conv => whnf
                          refine And.intro (by with_reducible rfl) ?_
                          conv => whnf
                          refine And.intro (by with_reducible rfl) ?_
                          conv => whnf
                          refine And.intro (by with_reducible rfl) ?_
                          conv => whnf
                          refine And.intro (by with_reducible rfl) ?_
                          conv => whnf
                          refine And.intro (by with_reducible rfl) ?_
                          conv => whnf
                          refine And.intro (by with_reducible rfl) ?_
                          conv => whnf
                          refine And.intro (by with_reducible rfl) ?_
                          conv => whnf
                          refine And.intro (by with_reducible rfl) ?_
                          conv => whnf
                          refine And.intro (by with_reducible rfl) ?_
                          conv => whnf
                          refine And.intro (by with_reducible rfl) ?_
                          conv => whnf
                          refine And.intro (by with_reducible rfl) ?_
                          conv => whnf
                          refine And.intro (by with_reducible rfl) ?_
                          conv => whnf
                          refine And.intro (by with_reducible rfl) ?_
                          conv => whnf
                          refine And.intro (by with_reducible rfl) ?_
                          conv => whnf
                          refine And.intro (by with_reducible rfl) ?_
                          conv => whnf
                          refine And.intro (by with_reducible rfl) ?_
                          conv => whnf
                          refine And.intro (by with_reducible rfl) ?_
                          conv => whnf
                          refine And.intro (by with_reducible rfl) ?_
                          conv => whnf
                          refine And.intro (by with_reducible rfl) ?_
                          conv => whnf
                          refine And.intro (by with_reducible rfl) ?_
                          conv => whnf
                          refine And.intro (by with_reducible rfl) ?_
                          conv => whnf
                          refine And.intro (by with_reducible rfl) ?_
                          conv => whnf
                          refine And.intro (by with_reducible rfl) ?_
                          conv => whnf
                          refine And.intro (by with_reducible rfl) ?_
                          conv => whnf
                          refine And.intro (by with_reducible rfl) ?_
                          conv => whnf
                          refine And.intro (by with_reducible rfl) ?_
                          conv => whnf
                          refine And.intro (by with_reducible rfl) ?_
                          conv => whnf
                          refine And.intro (by with_reducible rfl) ?_
                          conv => whnf
                          refine And.intro (by with_reducible rfl) ?_
                          conv => whnf
                          refine And.intro (by with_reducible rfl) ?_
                          conv => whnf
                          refine And.intro (by with_reducible rfl) ?_
                          conv => whnf
                          refine And.intro (by with_reducible rfl) ?_
                          conv => whnf
                          refine And.intro (by with_reducible rfl) ?_
                          conv => whnf
                          refine And.intro (by with_reducible rfl) ?_
                          conv => whnf
                          refine And.intro (by with_reducible rfl) ?_
                          conv => whnf
                          refine And.intro (by with_reducible rfl) ?_
                          conv => whnf
                          refine And.intro (by with_reducible rfl) ?_
                          conv => whnf
                          refine And.intro (by with_reducible rfl) ?_
                          conv => whnf
                          refine And.intro (by with_reducible rfl) ?_
                          conv => whnf
                          refine And.intro (by with_reducible rfl) ?_
                          conv => whnf
                          refine And.intro (by with_reducible rfl) ?_
                          conv => whnf
                          refine And.intro (by with_reducible rfl) ?_
                          conv => whnf
                          refine And.intro (by with_reducible rfl) ?_
                          conv => whnf
                          refine And.intro (by with_reducible rfl) ?_
                          conv => whnf
                          refine And.intro (by with_reducible rfl) ?_
                          conv => whnf
                          refine And.intro (by with_reducible rfl) ?_
                          conv => whnf
                          refine And.intro (by with_reducible rfl) ?_
                          conv => whnf
                          refine And.intro (by with_reducible rfl) ?_
                          conv => whnf
                          refine And.intro (by with_reducible rfl) ?_
                          conv => whnf
                          refine And.intro (by with_reducible rfl) ?_
                          conv => whnf
                          refine And.intro (by with_reducible rfl) ?_
                          conv => whnf
                          refine And.intro (by with_reducible rfl) ?_
                          conv => whnf
                          refine And.intro (by with_reducible rfl) ?_
                          conv => whnf
                          refine And.intro (by with_reducible rfl) ?_
                          conv => whnf
                          refine And.intro (by with_reducible rfl) ?_
                          conv => whnf
                          refine And.intro (by with_reducible rfl) ?_
                          conv => whnf
                          refine And.intro (by with_reducible rfl) ?_
                          conv => whnf
                          refine And.intro (by with_reducible rfl) ?_
                          conv => whnf
                          refine And.intro (by with_reducible rfl) ?_
                          conv => whnf
                          refine And.intro (by with_reducible rfl) ?_
                          conv => whnf
                          refine And.intro (by with_reducible rfl) ?_
                          conv => whnf
                          refine And.intro (by with_reducible rfl) ?_
                          conv => whnf
                          refine And.intro (by with_reducible rfl) ?_
                          conv => whnf
                          refine And.intro (by with_reducible rfl) ?_
                          conv => whnf
                          refine And.intro (by with_reducible rfl) ?_
                          conv => whnf
                          refine And.intro (by with_reducible rfl) ?_
                          conv => whnf
                          refine And.intro (by with_reducible rfl) ?_
                          conv => whnf
                          refine And.intro (by with_reducible rfl) ?_
                          conv => whnf
                          refine And.intro (by with_reducible rfl) ?_
                          conv => whnf
                          refine And.intro (by with_reducible rfl) ?_
                          conv => whnf
                          refine And.intro (by with_reducible rfl) ?_
                          conv => whnf
                          refine And.intro (by with_reducible rfl) ?_
                          conv => whnf
                          refine And.intro (by with_reducible rfl) ?_
                          conv => whnf
                          refine And.intro (by with_reducible rfl) ?_
                          conv => whnf
                          refine And.intro (by with_reducible rfl) ?_
                          conv => whnf
                          refine And.intro (by with_reducible rfl) ?_
                          conv => whnf
                          refine And.intro (by with_reducible rfl) ?_
                          conv => whnf
                          refine And.intro (by with_reducible rfl) ?_
                          conv => whnf
                          refine And.intro (by with_reducible rfl) ?_
                          conv => whnf
                          refine And.intro (by with_reducible rfl) ?_
                          conv => whnf
                          refine And.intro (by with_reducible rfl) ?_
                          conv => whnf
                          refine And.intro (by with_reducible rfl) ?_
                          conv => whnf
                          refine And.intro (by with_reducible rfl) ?_
                          conv => whnf
                          refine And.intro (by with_reducible rfl) ?_
                          conv => whnf
                          refine And.intro (by with_reducible rfl) ?_
                          conv => whnf
                          refine And.intro (by with_reducible rfl) ?_
                          conv => whnf
                          refine And.intro (by with_reducible rfl) ?_
                          conv => whnf
                          refine And.intro (by with_reducible rfl) ?_
                          conv => whnf
                          refine And.intro (by with_reducible rfl) ?_
                          conv => whnf
                          refine And.intro (by with_reducible rfl) ?_
                          conv => whnf
                          refine And.intro (by decide) ?_
                          conv => whnf
                          refine And.intro (by with_reducible rfl) ?_
                          conv => whnf
                          refine And.intro (by with_reducible rfl) ?_
                          conv => whnf
                          refine And.intro (by with_reducible rfl) ?_
                          conv => whnf
                          refine And.intro (by with_reducible rfl) ?_
                          conv => whnf
                          refine And.intro (by with_reducible rfl) ?_
                          conv => whnf
                          refine And.intro (by with_reducible rfl) ?_
                          conv => whnf
                          refine And.intro (by with_reducible rfl) ?_
                          conv => whnf
                          refine And.intro (by with_reducible rfl) ?_
                          conv => whnf
                          refine And.intro (by with_reducible rfl) ?_
                          conv => whnf
                          refine And.intro (by with_reducible rfl) ?_
                          conv => whnf
                          refine And.intro (by with_reducible rfl) ?_
                          conv => whnf
                          refine And.intro (by with_reducible rfl) ?_
                          conv => whnf
                          refine And.intro (by with_reducible rfl) ?_
                          conv => whnf
                          refine And.intro (by with_reducible rfl) ?_
                          conv => whnf
                          refine And.intro (by with_reducible rfl) ?_
                          conv => whnf
                          refine And.intro (by with_reducible rfl) ?_
                          conv => whnf
                          refine And.intro (by with_reducible rfl) ?_
                          conv => whnf
                          refine And.intro (by with_reducible rfl) ?_
                          conv => whnf
                          refine And.intro (by with_reducible rfl) ?_
                          conv => whnf
                          refine And.intro (by with_reducible rfl) ?_
                          conv => whnf
                          refine And.intro (by with_reducible rfl) ?_
                          exact True.intro
                        · omega
                        · rintro j nextl1 hIl1 ihl1
                          try dsimp only at hIl1
                          conv => whnf
                          refine And.intro (fun hc6 => ?_) (fun hc6 => ?_)
                          · replace hc6 := of_decide_eq_true hc6
                            conv => whnf
                            refine And.intro (by omega) ?_
                            refine ex_row (l := l) ?_ fun y hy => ?_
                            · (simp only [map_rows] at *; omega)
                            · simp only [toNat_ofNat] at hy
                              conv => whnf
                              refine And.intro (fun hc8 => ?_) (fun hc8 => ?_)
                              · conv => whnf
                                refine br_l rfl rfl ?_
                                conv => whnf
                                refine br_l rfl rfl ?_
                                conv => whnf
                                refine br_r rfl rfl ?_
                                conv => whnf
                                refine ihl1 (j + 1) _ ?_ ?_ (st_of ?_)
                                · (simp only [map_rows] at *; omega)
                                · (simp only [map_rows] at *; omega)
                                · conv => whnf
                                  refine And.intro (by with_reducible rfl) ?_
                                  conv => whnf
                                  refine And.intro (by with_reducible rfl) ?_
                                  conv => whnf
                                  refine And.intro (by with_reducible rfl) ?_
                                  conv => whnf
                                  refine And.intro (by with_reducible rfl) ?_
                                  refine And.intro (by with_reducible rfl) ?_
                                  conv => whnf
                                  refine And.intro (by with_reducible rfl) ?_
                                  conv => whnf
                                  refine And.intro (by with_reducible rfl) ?_
                                  conv => whnf
                                  refine And.intro (by with_reducible rfl) ?_
                                  conv => whnf
                                  refine And.intro (by with_reducible rfl) ?_
                                  conv => whnf
                                  refine And.intro (by with_reducible rfl) ?_
                                  conv => whnf
                                  refine And.intro (by with_reducible rfl) ?_
                                  refine And.intro (by with_reducible rfl) ?_
                                  conv => whnf
                                  refine And.intro (by with_reducible rfl) ?_
                                  conv => whnf
                                  refine And.intro (by with_reducible rfl) ?_
                                  conv => whnf
                                  refine And.intro (by with_reducible rfl) ?_
                                  refine And.intro (by with_reducible rfl) ?_
                                  conv => whnf
                                  refine And.intro (by with_reducible rfl) ?_
                                  conv => whnf
                                  refine And.intro (by with_reducible rfl) ?_
                                  conv => whnf
                                  refine And.intro (by (exact any_n hy (by assumption))) ?_
                                  conv => whnf
                                  refine And.intro (by with_reducible rfl) ?_
                                  conv => whnf
                                  refine And.intro (by with_reducible rfl) ?_
                                  conv => whnf
                                  refine And.intro (by with_reducible rfl) ?_
                                  conv => whnf
                                  refine And.intro (by with_reducible rfl) ?_
                                  conv => whnf
                                  refine And.intro (by with_reducible rfl) ?_
                                  conv => whnf
                                  refine And.intro (by with_reducible rfl) ?_
                                  conv => whnf
                                  refine And.intro (by with_reducible rfl) ?_
                                  conv => whnf
                                  refine And.intro (by with_reducible rfl) ?_
                                  conv => whnf
                                  refine And.intro (by with_reducible rfl) ?_
                                  conv => whnf
                                  refine And.intro (by with_reducible rfl) ?_
                                  conv => whnf
                                  refine And.intro (by with_reducible rfl) ?_
                                  conv => whnf
                                  refine And.intro (by with_reducible rfl) ?_
                                  conv => whnf
                                  refine And.intro (by with_reducible rfl) ?_
                                  conv => whnf
                                  refine And.intro (by with_reducible rfl) ?_
                                  conv => whnf
                                  refine And.intro (by with_reducible rfl) ?_
                                  conv => whnf
                                  refine And.intro (by with_reducible rfl) ?_
                                  conv => whnf
                                  refine And.intro (by with_reducible rfl) ?_
                                  conv => whnf
                                  refine And.intro (by with_reducible rfl) ?_
                                  conv => whnf
                                  refine And.intro (by with_reducible rfl) ?_
                                  conv => whnf
                                  refine And.intro (by with_reducible rfl) ?_
                                  conv => whnf
                                  refine And.intro (by with_reducible rfl) ?_
                                  conv => whnf
                                  refine And.intro (by with_reducible rfl) ?_
                                  conv => whnf
                                  refine And.intro (by with_reducible rfl) ?_
                                  conv => whnf
                                  refine And.intro (by with_reducible rfl) ?_
                                  conv => whnf
                                  refine And.intro (by with_reducible rfl) ?_
                                  conv => whnf
                                  refine And.intro (by with_reducible rfl) ?_
                                  conv => whnf
                                  refine And.intro (by with_reducible rfl) ?_
                                  conv => whnf
                                  refine And.intro (by with_reducible rfl) ?_
                                  conv => whnf
                                  refine And.intro (by with_reducible rfl) ?_
                                  conv => whnf
                                  refine And.intro (by with_reducible rfl) ?_
                                  conv => whnf
                                  refine And.intro (by with_reducible rfl) ?_
                                  conv => whnf
                                  refine And.intro (by with_reducible rfl) ?_
                                  conv => whnf
                                  refine And.intro (by with_reducible rfl) ?_
                                  conv => whnf
                                  refine And.intro (by with_reducible rfl) ?_
                                  conv => whnf
                                  refine And.intro (by with_reducible rfl) ?_
                                  conv => whnf
                                  refine And.intro (by with_reducible rfl) ?_
                                  conv => whnf
                                  refine And.intro (by with_reducible rfl) ?_
                                  conv => whnf
                                  refine And.intro (by with_reducible rfl) ?_
                                  conv => whnf
                                  refine And.intro (by with_reducible rfl) ?_
                                  conv => whnf
                                  refine And.intro (by with_reducible rfl) ?_
                                  conv => whnf
                                  refine And.intro (by with_reducible rfl) ?_
                                  conv => whnf
                                  refine And.intro (by with_reducible rfl) ?_
                                  conv => whnf
                                  refine And.intro (by with_reducible rfl) ?_
                                  conv => whnf
                                  refine And.intro (by with_reducible rfl) ?_
                                  conv => whnf
                                  refine And.intro (by with_reducible rfl) ?_
                                  conv => whnf
                                  refine And.intro (by with_reducible rfl) ?_
                                  conv => whnf
                                  refine And.intro (by with_reducible rfl) ?_
                                  conv => whnf
                                  refine And.intro (by with_reducible rfl) ?_
                                  conv => whnf
                                  refine And.intro (by with_reducible rfl) ?_
                                  conv => whnf
                                  refine And.intro (by with_reducible rfl) ?_
                                  conv => whnf
                                  refine And.intro (by with_reducible rfl) ?_
                                  conv => whnf
                                  refine And.intro (by with_reducible rfl) ?_
                                  conv => whnf
                                  refine And.intro (by with_reducible rfl) ?_
                                  conv => whnf
                                  refine And.intro (by with_reducible rfl) ?_
                                  conv => whnf
                                  refine And.intro (by with_reducible rfl) ?_
                                  conv => whnf
                                  refine And.intro (by with_reducible rfl) ?_
                                  conv => whnf
                                  refine And.intro (by with_reducible rfl) ?_
                                  conv => whnf
                                  refine And.intro (by with_reducible rfl) ?_
                                  conv => whnf
                                  refine And.intro (by with_reducible rfl) ?_
                                  conv => whnf
                                  refine And.intro (by with_reducible rfl) ?_
                                  conv => whnf
                                  refine And.intro (by with_reducible rfl) ?_
                                  conv => whnf
                                  refine And.intro (by with_reducible rfl) ?_
                                  conv => whnf
                                  refine And.intro (by with_reducible rfl) ?_
                                  conv => whnf
                                  refine And.intro (by with_reducible rfl) ?_
                                  conv => whnf
                                  refine And.intro (by with_reducible rfl) ?_
                                  conv => whnf
                                  refine And.intro (by with_reducible rfl) ?_
                                  conv => whnf
                                  refine And.intro (by with_reducible rfl) ?_
                                  conv => whnf
                                  refine And.intro (by with_reducible rfl) ?_
                                  conv => whnf
                                  refine And.intro (by with_reducible rfl) ?_
                                  conv => whnf
                                  refine And.intro (by with_reducible rfl) ?_
                                  conv => whnf
                                  refine And.intro (by with_reducible rfl) ?_
                                  conv => whnf
                                  refine And.intro (by with_reducible rfl) ?_
                                  conv => whnf
                                  refine And.intro (by with_reducible rfl) ?_
                                  conv => whnf
                                  refine And.intro (by with_reducible rfl) ?_
                                  conv => whnf
                                  refine And.intro (by with_reducible rfl) ?_
                                  conv => whnf
                                  refine And.intro (by with_reducible rfl) ?_
                                  conv => whnf
                                  refine And.intro (by with_reducible rfl) ?_
                                  conv => whnf
                                  refine And.intro (by with_reducible rfl) ?_
                                  conv => whnf
                                  refine And.intro (by with_reducible rfl) ?_
                                  conv => whnf
                                  refine And.intro (by with_reducible rfl) ?_
                                  conv => whnf
                                  refine And.intro (by with_reducible rfl) ?_
                                  conv => whnf
                                  refine And.intro (by with_reducible rfl) ?_
                                  conv => whnf
                                  refine And.intro (by with_reducible rfl) ?_
                                  conv => whnf
                                  refine And.intro (by with_reducible rfl) ?_
                                  conv => whnf
                                  refine And.intro (by with_reducible rfl) ?_
                                  conv => whnf
                                  refine And.intro (by with_reducible rfl) ?_
                                  conv => whnf
                                  refine And.intro (by with_reducible rfl) ?_
                                  conv => whnf
                                  refine And.intro (by with_reducible rfl) ?_
                                  conv => whnf
                                  refine And.intro (by with_reducible rfl) ?_
                                  conv => whnf
                                  refine And.intro (by with_reducible rfl) ?_
                                  conv => whnf
                                  refine And.intro (by with_reducible rfl) ?_
                                  conv => whnf
                                  refine And.intro (by with_reducible rfl) ?_
                                  conv => whnf
                                  refine And.intro (by with_reducible rfl) ?_
                                  conv => whnf
                                  refine And.intro (by with_reducible rfl) ?_
                                  conv => whnf
                                  refine And.intro (by with_reducible rfl) ?_
                                  conv => whnf
                                  refine And.intro (by with_reducible rfl) ?_
                                  conv => whnf
                                  refine And.intro (by with_reducible rfl) ?_
                                  conv => whnf
                                  refine And.intro (by with_reducible rfl) ?_
                                  conv => whnf
                                  refine And.intro (by with_reducible rfl) ?_
                                  conv => whnf
                                  refine And.intro (by with_reducible rfl) ?_
                                  conv => whnf
                                  refine And.intro (by with_reducible rfl) ?_
                                  conv => whnf
                                  refine And.intro (by with_reducible rfl) ?_
                                  conv => whnf
                                  refine And.intro (by with_reducible rfl) ?_
                                  conv => whnf
                                  refine And.intro (by with_reducible rfl) ?_
                                  conv => whnf
                                  refine And.intro (by with_reducible rfl) ?_
                                  conv => whnf
                                  refine And.intro (by with_reducible rfl) ?_
                                  conv => whnf
                                  refine And.intro (by with_reducible rfl) ?_
                                  conv => whnf
                                  refine And.intro (by with_reducible rfl) ?_
                                  conv => whnf
                                  refine And.intro (by with_reducible rfl) ?_
                                  conv => whnf
                                  refine And.intro (by with_reducible rfl) ?_
                                  conv => whnf
                                  refine And.intro (by with_reducible rfl) ?_
                                  conv => whnf
                                  refine And.intro (by with_reducible rfl) ?_
                                  conv => whnf
                                  refine And.intro (by with_reducible rfl) ?_
                                  conv => whnf
                                  refine And.intro (by with_reducible rfl) ?_
                                  conv => whnf
                                  refine And.intro (by with_reducible rfl) ?_
                                  conv => whnf
                                  refine And.intro (by with_reducible rfl) ?_
                                  conv => whnf
                                  refine And.intro (by with_reducible rfl) ?_
                                  conv => whnf
                                  refine And.intro (by with_reducible rfl) ?_
                                  conv => whnf
                                  refine And.intro (by with_reducible rfl) ?_
                                  conv => whnf
                                  refine And.intro (by with_reducible rfl) ?_
                                  conv => whnf
                                  refine And.intro (by with_reducible rfl) ?_
                                  conv => whnf
                                  refine And.intro (by with_reducible rfl) ?_
                                  conv => whnf
                                  refine And.intro (by with_reducible rfl) ?_
                                  conv => whnf
                                  refine And.intro (by with_reducible rfl) ?_
                                  conv => whnf
                                  refine And.intro (by with_reducible rfl) ?_
                                  conv => whnf
                                  refine And.intro (by with_reducible rfl) ?_
                                  conv => whnf
                                  refine And.intro (by with_reducible rfl) ?_
                                  conv => whnf
                                  refine And.intro (by with_reducible rfl) ?_
                                  conv => whnf
                                  refine And.intro (by with_reducible rfl) ?_
                                  conv => whnf
                                  refine And.intro (by with_reducible rfl) ?_
                                  conv => whnf
                                  refine And.intro (by with_reducible rfl) ?_
                                  conv => whnf
                                  refine And.intro (by with_reducible rfl) ?_
                                  conv => whnf
                                  refine And.intro (by with_reducible rfl) ?_
                                  conv => whnf
                                  refine And.intro (by with_reducible rfl) ?_
                                  conv => whnf
                                  refine And.intro (by with_reducible rfl) ?_
                                  conv => whnf
                                  refine And.intro (by with_reducible rfl) ?_
                                  conv => whnf
                                  refine And.intro (by with_reducible rfl) ?_
                                  conv => whnf
                                  refine And.intro (by with_reducible rfl) ?_
                                  conv => whnf
                                  refine And.intro (by with_reducible rfl) ?_
                                  conv => whnf
                                  refine And.intro (by with_reducible rfl) ?_
                                  conv => whnf
                                  refine And.intro (by with_reducible rfl) ?_
                                  conv => whnf
                                  refine And.intro (by with_reducible rfl) ?_
                                  conv => whnf
                                  refine And.intro (by with_reducible rfl) ?_
                                  conv => whnf
                                  refine And.intro (by with_reducible rfl) ?_
                                  conv => whnf
                                  refine And.intro (by (simp only [wrap_i64, wrap_u64, wrap_u32, wrap_u16, wrap_u8, maxLen_eq, mmI] at *; omega)) ?_
                                  conv => whnf
                                  refine And.intro (by with_reducible rfl) ?_
                                  conv => whnf
                                  refine And.intro (by with_reducible rfl) ?_
                                  conv => whnf
                                  refine And.intro (by with_reducible rfl) ?_
                                  conv => whnf
                                  refine And.intro (by with_reducible rfl) ?_
                                  conv => whnf
                                  refine And.intro (by with_reducible rfl) ?_
                                  conv => whnf
                                  refine And.intro (by with_reducible rfl) ?_
                                  conv => whnf
                                  refine And.intro (by with_reducible rfl) ?_
                                  conv => whnf
                                  refine And.intro (by with_reducible rfl) ?_
                                  conv => whnf
                                  refine And.intro (by with_reducible rfl) ?_
                                  conv => whnf
                                  refine And.intro (by with_reducible rfl) ?_
                                  conv => whnf
                                  refine And.intro (by with_reducible rfl) ?_
                                  conv => whnf
                                  refine And.intro (by with_reducible rfl) ?_
                                  conv => whnf
                                  refine And.intro (by with_reducible rfl) ?_
                                  conv => whnf
                                  refine And.intro (by with_reducible rfl) ?_
                                  conv => whnf
                                  refine And.intro (by with_reducible rfl) ?_
                                  conv => whnf
                                  refine And.intro (by with_reducible rfl) ?_
                                  conv => whnf
                                  refine And.intro (by with_reducible rfl) ?_
                                  conv => whnf
                                  refine And.intro (by with_reducible rfl) ?_
                                  conv => whnf
                                  refine And.intro (by with_reducible rfl) ?_
                                  conv => whnf
                                  refine And.intro (by with_reducible rfl) ?_
                                  conv => whnf
                                  refine And.intro (by with_reducible rfl) ?_
                                  exact True.intro
                              · simp only [Bool.not_eq_true', Bool.not_eq_false', Bool.and_eq_true, Bool.and_eq_false_imp, Bool.or_eq_true, Bool.or_eq_false_iff, Bool.and_true, Bool.true_and, Bool.not_true, Bool.not_false, decide_eq_true_eq, decide_eq_false_iff_not, Bool.decide_and] at hc8
                                conv => whnf
                                refine br_r rfl rfl ?_
                                conv => whnf
                                refine br_r rfl rfl ?_
                                conv => whnf
                                refine br_l rfl rfl ?_
                                conv => whnf
                                refine ihl1 (j + 1) _ ?_ ?_ (st_of ?_)
                                · (simp only [map_rows] at *; omega)
                                · (simp only [map_rows] at *; omega)
                                · conv => whnf
                                  refine And.intro (by with_reducible rfl) ?_
                                  conv => whnf
                                  refine And.intro (by with_reducible rfl) ?_
                                  conv => whnf
                                  refine And.intro (by with_reducible rfl) ?_
                                  conv => whnf
                                  refine And.intro (by with_reducible rfl) ?_
                                  refine And.intro (by with_reducible rfl) ?_
                                  conv => whnf
                                  refine And.intro (by with_reducible rfl) ?_
                                  conv => whnf
                                  refine And.intro (by with_reducible rfl) ?_
                                  conv => whnf
                                  refine And.intro (by with_reducible rfl) ?_
                                  conv => whnf
                                  refine And.intro (by with_reducible rfl) ?_
                                  conv => whnf
                                  refine And.intro (by with_reducible rfl) ?_
                                  conv => whnf
                                  refine And.intro (by with_reducible rfl) ?_
                                  refine And.intro (by with_reducible rfl) ?_
                                  conv => whnf
                                  refine And.intro (by with_reducible rfl) ?_
                                  conv => whnf
                                  refine And.intro (by with_reducible rfl) ?_
                                  conv => whnf
                                  refine And.intro (by with_reducible rfl) ?_
                                  refine And.intro (by with_reducible rfl) ?_
                                  conv => whnf
                                  refine And.intro (by with_reducible rfl) ?_
                                  conv => whnf
                                  refine And.intro (by with_reducible rfl) ?_
                                  conv => whnf
                                  refine And.intro (by (exact any_y hy (by assumption))) ?_
                                  conv => whnf
                                  refine And.intro (by with_reducible rfl) ?_
                                  conv => whnf
                                  refine And.intro (by with_reducible rfl) ?_
                                  conv => whnf
                                  refine And.intro (by with_reducible rfl) ?_
                                  conv => whnf
                                  refine And.intro (by with_reducible rfl) ?_
                                  conv => whnf
                                  refine And.intro (by with_reducible rfl) ?_
                                  conv => whnf
                                  refine And.intro (by with_reducible rfl) ?_
                                  conv => whnf
                                  refine And.intro (by with_reducible rfl) ?_
                                  conv => whnf
                                  refine And.intro (by with_reducible rfl) ?_
                                  conv => whnf
                                  refine And.intro (by with_reducible rfl) ?_
                                  conv => whnf
                                  refine And.intro (by with_reducible rfl) ?_
                                  conv => whnf
                                  refine And.intro (by with_reducible rfl) ?_
                                  conv => whnf
                                  refine And.intro (by with_reducible rfl) ?_
                                  conv => whnf
                                  refine And.intro (by with_reducible rfl) ?_
                                  conv => whnf
                                  refine And.intro (by with_reducible rfl) ?_
                                  conv => whnf
                                  refine And.intro (by with_reducible rfl) ?_
                                  conv => whnf
                                  refine And.intro (by with_reducible rfl) ?_
                                  conv => whnf
                                  refine And.intro (by with_reducible rfl) ?_
                                  conv => whnf
                                  refine And.intro (by with_reducible rfl) ?_
                                  conv => whnf
                                  refine And.intro (by with_reducible rfl) ?_
                                  conv => whnf
                                  refine And.intro (by with_reducible rfl) ?_
                                  conv => whnf
                                  refine And.intro (by with_reducible rfl) ?_
                                  conv => whnf
                                  refine And.intro (by with_reducible rfl) ?_
                                  conv => whnf
                                  refine And.intro (by with_reducible rfl) ?_
                                  conv => whnf
                                  refine And.intro (by with_reducible rfl) ?_
                                  conv => whnf
                                  refine And.intro (by with_reducible rfl) ?_
                                  conv => whnf
                                  refine And.intro (by with_reducible rfl) ?_
                                  conv => whnf
                                  refine And.intro (by with_reducible rfl) ?_
                                  conv => whnf
                                  refine And.intro (by with_reducible rfl) ?_
                                  conv => whnf
                                  refine And.intro (by with_reducible rfl) ?_
                                  conv => whnf
                                  refine And.intro (by with_reducible rfl) ?_
                                  conv => whnf
                                  refine And.intro (by with_reducible rfl) ?_
                                  conv => whnf
                                  refine And.intro (by with_reducible rfl) ?_
                                  conv => whnf
                                  refine And.intro (by with_reducible rfl) ?_
                                  conv => whnf
                                  refine And.intro (by with_reducible rfl) ?_
                                  conv => whnf
                                  refine And.intro (by with_reducible rfl) ?_
                                  conv => whnf
                                  refine And.intro (by with_reducible rfl) ?_
                                  conv => whnf
                                  refine And.intro (by with_reducible rfl) ?_
                                  conv => whnf
                                  refine And.intro (by with_reducible rfl) ?_
                                  conv => whnf
                                  refine And.intro (by with_reducible rfl) ?_
                                  conv => whnf
                                  refine And.intro (by with_reducible rfl) ?_
                                  conv => whnf
                                  refine And.intro (by with_reducible rfl) ?_
                                  conv => whnf
                                  refine And.intro (by with_reducible rfl) ?_
                                  conv => whnf
                                  refine And.intro (by with_reducible rfl) ?_
                                  conv => whnf
                                  refine And.intro (by with_reducible rfl) ?_
                                  conv => whnf
                                  refine And.intro (by with_reducible rfl) ?_
                                  conv => whnf
                                  refine And.intro (by with_reducible rfl) ?_
                                  conv => whnf
                                  refine And.intro (by with_reducible rfl) ?_
                                  conv => whnf
                                  refine And.intro (by with_reducible rfl) ?_
                                  conv => whnf
                                  refine And.intro (by with_reducible rfl) ?_
                                  conv => whnf
                                  refine And.intro (by with_reducible rfl) ?_
                                  conv => whnf
                                  refine And.intro (by with_reducible rfl) ?_
                                  conv => whnf
                                  refine And.intro (by with_reducible rfl) ?_
                                  conv => whnf
                                  refine And.intro (by with_reducible rfl) ?_
                                  conv => whnf
                                  refine And.intro (by with_reducible rfl) ?_
                                  conv => whnf
                                  refine And.intro (by with_reducible rfl) ?_
                                  conv => whnf
                                  refine And.intro (by with_reducible rfl) ?_
                                  conv => whnf
                                  refine And.intro (by with_reducible rfl) ?_
                                  conv => whnf
                                  refine And.intro (by with_reducible rfl) ?_
                                  conv => whnf
                                  refine And.intro (by with_reducible rfl) ?_
                                  conv => whnf
                                  refine And.intro (by with_reducible rfl) ?_
                                  conv => whnf
                                  refine And.intro (by with_reducible rfl) ?_
                                  conv => whnf
                                  refine And.intro (by with_reducible rfl) ?_
                                  conv => whnf
                                  refine And.intro (by with_reducible rfl) ?_
                                  conv => whnf
                                  refine And.intro (by with_reducible rfl) ?_
                                  conv => whnf
                                  refine And.intro (by with_reducible rfl) ?_
                                  conv => whnf
                                  refine And.intro (by with_reducible rfl) ?_
                                  conv => whnf
                                  refine And.intro (by with_reducible rfl) ?_
                                  conv => whnf
                                  refine And.intro (by with_reducible rfl) ?_
                                  conv => whnf
                                  refine And.intro (by with_reducible rfl) ?_
                                  conv => whnf
                                  refine And.intro (by with_reducible rfl) ?_
                                  conv => whnf
                                  refine And.intro (by with_reducible rfl) ?_
                                  conv => whnf
                                  refine And.intro (by with_reducible rfl) ?_
                                  conv => whnf
                                  refine And.intro (by with_reducible rfl) ?_
                                  conv => whnf
                                  refine And.intro (by with_reducible rfl) ?_
                                  conv => whnf
                                  refine And.intro (by with_reducible rfl) ?_
                                  conv => whnf
                                  refine And.intro (by with_reducible rfl) ?_
                                  conv => whnf
                                  refine And.intro (by with_reducible rfl) ?_
                                  conv => whnf
                                  refine And.intro (by with_reducible rfl) ?_
                                  conv => whnf
                                  refine And.intro (by with_reducible rfl) ?_
                                  conv => whnf
                                  refine And.intro (by with_reducible rfl) ?_
                                  conv => whnf
                                  refine And.intro (by with_reducible rfl) ?_
                                  conv => whnf
                                  refine And.intro (by with_reducible rfl) ?_
                                  conv => whnf
                                  refine And.intro (by with_reducible rfl) ?_
                                  conv => whnf
                                  refine And.intro (by with_reducible rfl) ?_
                                  conv => whnf
                                  refine And.intro (by with_reducible rfl) ?_
                                  conv => whnf
                                  refine And.intro (by with_reducible rfl) ?_
                                  conv => whnf
                                  refine And.intro (by with_reducible rfl) ?_
                                  conv => whnf
                                  refine And.intro (by with_reducible rfl) ?_
                                  conv => whnf
                                  refine And.intro (by with_reducible rfl) ?_
                                  conv => whnf
                                  refine And.intro (by with_reducible rfl) ?_
                                  conv => whnf
                                  refine And.intro (by with_reducible rfl) ?_
                                  conv => whnf
                                  refine And.intro (by with_reducible rfl) ?_
                                  conv => whnf
                                  refine And.intro (by with_reducible rfl) ?_
                                  conv => whnf
                                  refine And.intro (by with_reducible rfl) ?_
                                  conv => whnf
                                  refine And.intro (by with_reducible rfl) ?_
                                  conv => whnf
                                  refine And.intro (by with_reducible rfl) ?_
                                  conv => whnf
                                  refine And.intro (by with_reducible rfl) ?_
                                  conv => whnf
                                  refine And.intro (by with_reducible rfl) ?_
                                  conv => whnf
                                  refine And.intro (by with_reducible rfl) ?_
                                  conv => whnf
                                  refine And.intro (by with_reducible rfl) ?_
                                  conv => whnf
                                  refine And.intro (by with_reducible rfl) ?_
                                  conv => whnf
                                  refine And.intro (by with_reducible rfl) ?_
                                  conv => whnf
                                  refine And.intro (by with_reducible rfl) ?_
                                  conv => whnf
                                  refine And.intro (by with_reducible rfl) ?_
                                  conv => whnf
                                  refine And.intro (by with_reducible rfl) ?_
                                  conv => whnf
                                  refine And.intro (by with_reducible rfl) ?_
                                  conv => whnf
                                  refine And.intro (by with_reducible rfl) ?_
                                  conv => whnf
                                  refine And.intro (by with_reducible rfl) ?_
                                  conv => whnf
                                  refine And.intro (by with_reducible rfl) ?_
                                  conv => whnf
                                  refine And.intro (by with_reducible rfl) ?_
                                  conv => whnf
                                  refine And.intro (by with_reducible rfl) ?_
                                  conv => whnf
                                  refine And.intro (by with_reducible rfl) ?_
                                  conv => whnf
                                  refine And.intro (by with_reducible rfl) ?_
                                  conv => whnf
                                  refine And.intro (by with_reducible rfl) ?_
                                  conv => whnf
                                  refine And.intro (by with_reducible rfl) ?_
                                  conv => whnf
                                  refine And.intro (by with_reducible rfl) ?_
                                  conv => whnf
                                  refine And.intro (by with_reducible rfl) ?_
                                  conv => whnf
                                  refine And.intro (by with_reducible rfl) ?_
                                  conv => whnf
                                  refine And.intro (by with_reducible rfl) ?_
                                  conv => whnf
                                  refine And.intro (by with_reducible rfl) ?_
                                  conv => whnf
                                  refine And.intro (by with_reducible rfl) ?_
                                  conv => whnf
                                  refine And.intro (by with_reducible rfl) ?_
                                  conv => whnf
                                  refine And.intro (by with_reducible rfl) ?_
                                  conv => whnf
                                  refine And.intro (by with_reducible rfl) ?_
                                  conv => whnf
                                  refine And.intro (by with_reducible rfl) ?_
                                  conv => whnf
                                  refine And.intro (by with_reducible rfl) ?_
                                  conv => whnf
                                  refine And.intro (by with_reducible rfl) ?_
                                  conv => whnf
                                  refine And.intro (by with_reducible rfl) ?_
                                  conv => whnf
                                  refine And.intro (by with_reducible rfl) ?_
                                  conv => whnf
                                  refine And.intro (by with_reducible rfl) ?_
                                  conv => whnf
                                  refine And.intro (by with_reducible rfl) ?_
                                  conv => whnf
                                  refine And.intro (by with_reducible rfl) ?_
                                  conv => whnf
                                  refine And.intro (by with_reducible rfl) ?_
                                  conv => whnf
                                  refine And.intro (by with_reducible rfl) ?_
                                  conv => whnf
                                  refine And.intro (by with_reducible rfl) ?_
                                  conv => whnf
                                  refine And.intro (by with_reducible rfl) ?_
                                  conv => whnf
                                  refine And.intro (by with_reducible rfl) ?_
                                  conv => whnf
                                  refine And.intro (by with_reducible rfl) ?_
                                  conv => whnf
                                  refine And.intro (by with_reducible rfl) ?_
                                  conv => whnf
                                  refine And.intro (by with_reducible rfl) ?_
                                  conv => whnf
                                  refine And.intro (by with_reducible rfl) ?_
                                  conv => whnf
                                  refine And.intro (by with_reducible rfl) ?_
                                  conv => whnf
                                  refine And.intro (by with_reducible rfl) ?_
                                  conv => whnf
                                  refine And.intro (by with_reducible rfl) ?_
                                  conv => whnf
                                  refine And.intro (by (simp only [wrap_i64, wrap_u64, wrap_u32, wrap_u16, wrap_u8, maxLen_eq, mmI] at *; omega)) ?_
                                  conv => whnf
                                  refine And.intro (by with_reducible rfl) ?_
                                  conv => whnf
                                  refine And.intro (by with_reducible rfl) ?_
                                  conv => whnf
                                  refine And.intro (by with_reducible rfl) ?_
                                  conv => whnf
                                  refine And.intro (by with_reducible rfl) ?_
                                  conv => whnf
                                  refine And.intro (by with_reducible rfl) ?_
                                  conv => whnf
                                  refine And.intro (by with_reducible rfl) ?_
                                  conv => whnf
                                  refine And.intro (by with_reducible rfl) ?_
                                  conv => whnf
                                  refine And.intro (by with_reducible rfl) ?_
                                  conv => whnf
                                  refine And.intro (by with_reducible rfl) ?_
                                  conv => whnf
                                  refine And.intro (by with_reducible rfl) ?_
                                  conv => whnf
                                  refine And.intro (by with_reducible rfl) ?_
                                  conv => whnf
                                  refine And.intro (by with_reducible rfl) ?_
                                  conv => whnf
                                  refine And.intro (by with_reducible rfl) ?_
                                  conv => whnf
                                  refine And.intro (by with_reducible rfl) ?_
                                  conv => whnf
                                  refine And.intro (by with_reducible rfl) ?_
                                  conv => whnf
                                  refine And.intro (by with_reducible rfl) ?_
                                  conv => whnf
                                  refine And.intro (by with_reducible rfl) ?_
                                  conv => whnf
                                  refine And.intro (by with_reducible rfl) ?_
                                  conv => whnf
                                  refine And.intro (by with_reducible rfl) ?_
                                  conv => whnf
                                  refine And.intro (by with_reducible rfl) ?_
                                  conv => whnf
                                  refine And.intro (by with_reducible rfl) ?_
                                  exact True.intro
                          · replace hc6 := of_decide_eq_false hc6
                            conv => whnf
                            refine ⟨_, s1_good ?_ ?_, ?_⟩
                            · assumption
                            · assumption
                            · conv => whnf
                              refine And.intro (fun hc9 => ?_) (fun hc9 => ?_)
                              · replace hc9 := of_decide_eq_false (Bool.not_eq_true' _ |>.mp hc9)
                                (refine absurd ?_ (by assumption); rw [take_end (by simp only [map_rows] at *; omega)])
                              · replace hc9 := of_decide_eq_true (Bool.not_eq_false' _ |>.mp hc9)
                                conv => whnf
                                refine ihl0 (i + 1) _ ?_ ?_ (st_of ?_)
                                · (simp only [wrap_i64, wrap_u64, wrap_u32, wrap_u16, wrap_u8, maxLen_eq, mmI] at *; omega)
                                · (simp only [wrap_i64, wrap_u64, wrap_u32, wrap_u16, wrap_u8, maxLen_eq, mmI] at *; omega)
                                · conv => whnf
                                  refine And.intro (by with_reducible rfl) ?_
                                  conv => whnf
                                  refine And.intro (by with_reducible rfl) ?_
                                  conv => whnf
                                  refine And.intro (by with_reducible rfl) ?_
                                  conv => whnf
                                  refine And.intro (by with_reducible rfl) ?_
                                  refine And.intro (by with_reducible rfl) ?_
                                  conv => whnf
                                  refine And.intro (by with_reducible rfl) ?_
                                  conv => whnf
                                  refine And.intro (by with_reducible rfl) ?_
                                  conv => whnf
                                  refine And.intro (by with_reducible rfl) ?_
                                  conv => whnf
                                  refine And.intro (by with_reducible rfl) ?_
                                  conv => whnf
                                  refine And.intro (by with_reducible rfl) ?_
                                  conv => whnf
                                  refine And.intro (by with_reducible rfl) ?_
                                  refine And.intro (by with_reducible rfl) ?_
                                  conv => whnf
                                  refine And.intro (by with_reducible rfl) ?_
                                  conv => whnf
                                  refine And.intro (by with_reducible rfl) ?_
                                  conv => whnf
                                  refine And.intro (by with_reducible rfl) ?_
                                  refine And.intro (by with_reducible rfl) ?_
                                  conv => whnf
                                  refine And.intro (by with_reducible rfl) ?_
                                  conv => whnf
                                  refine And.intro (by (simp only [wrap_i64, wrap_u64, wrap_u32, wrap_u16, wrap_u8, maxLen_eq, mmI] at *; omega)) ?_
                                  conv => whnf
                                  refine And.intro (by with_reducible rfl) ?_
                                  conv => whnf
                                  refine And.intro (by with_reducible rfl) ?_
                                  conv => whnf
                                  refine And.intro (by with_reducible rfl) ?_
                                  conv => whnf
                                  refine And.intro (by with_reducible rfl) ?_
                                  conv => whnf
                                  refine And.intro (by with_reducible rfl) ?_
                                  conv => whnf
                                  refine And.intro (by with_reducible rfl) ?_
                                  conv => whnf
                                  refine And.intro (by with_reducible rfl) ?_
                                  conv => whnf
                                  refine And.intro (by with_reducible rfl) ?_
                                  conv => whnf
                                  refine And.intro (by with_reducible rfl) ?_
                                  conv => whnf
                                  refine And.intro (by with_reducible rfl) ?_
                                  conv => whnf
                                  refine And.intro (by with_reducible rfl) ?_
                                  conv => whnf
                                  refine And.intro (by with_reducible rfl) ?_
                                  conv => whnf
                                  refine And.intro (by with_reducible rfl) ?_
                                  conv => whnf
                                  refine And.intro (by with_reducible rfl) ?_
                                  conv => whnf
                                  refine And.intro (by with_reducible rfl) ?_
                                  conv => whnf
                                  refine And.intro (by with_reducible rfl) ?_
                                  conv => whnf
                                  refine And.intro (by with_reducible rfl) ?_
                                  conv => whnf
                                  refine And.intro (by with_reducible rfl) ?_
                                  conv => whnf
                                  refine And.intro (by with_reducible rfl) ?_
                                  conv => whnf
                                  refine And.intro (by with_reducible rfl) ?_
                                  conv => whnf
                                  refine And.intro (by with_reducible rfl) ?_
                                  conv => whnf
                                  refine And.intro (by with_reducible rfl) ?_
                                  conv => whnf
                                  refine And.intro (by with_reducible rfl) ?_
                                  conv => whnf
                                  refine And.intro (by with_reducible rfl) ?_
                                  conv => whnf
                                  refine And.intro (by with_reducible rfl) ?_
                                  conv => whnf
                                  refine And.intro (by with_reducible rfl) ?_
                                  conv => whnf
                                  refine And.intro (by with_reducible rfl) ?_
                                  conv => whnf
                                  refine And.intro (by with_reducible rfl) ?_
                                  conv => whnf
                                  refine And.intro (by with_reducible rfl) ?_
                                  conv => whnf
                                  refine And.intro (by with_reducible rfl) ?_
                                  conv => whnf
                                  refine And.intro (by with_reducible rfl) ?_
                                  conv => whnf
                                  refine And.intro (by with_reducible rfl) ?_
                                  conv => whnf
                                  refine And.intro (by with_reducible rfl) ?_
                                  conv => whnf
                                  refine And.intro (by with_reducible rfl) ?_
                                  conv => whnf
                                  refine And.intro (by with_reducible rfl) ?_
                                  conv => whnf
                                  refine And.intro (by with_reducible rfl) ?_
                                  conv => whnf
                                  refine And.intro (by with_reducible rfl) ?_
                                  conv => whnf
                                  refine And.intro (by with_reducible rfl) ?_
                                  conv => whnf
                                  refine And.intro (by with_reducible rfl) ?_
                                  conv => whnf
                                  refine And.intro (by with_reducible rfl) ?_
                                  conv => whnf
                                  refine And.intro (by with_reducible rfl) ?_
                                  conv => whnf
                                  refine And.intro (by with_reducible rfl) ?_
                                  conv => whnf
                                  refine And.intro (by with_reducible rfl) ?_
                                  conv => whnf
                                  refine And.intro (by with_reducible rfl) ?_
                                  conv => whnf
                                  refine And.intro (by with_reducible rfl) ?_
                                  conv => whnf
                                  refine And.intro (by with_reducible rfl) ?_
                                  conv => whnf
                                  refine And.intro (by with_reducible rfl) ?_
                                  conv => whnf
                                  refine And.intro (by with_reducible rfl) ?_
                                  conv => whnf
                                  refine And.intro (by with_reducible rfl) ?_
                                  conv => whnf
                                  refine And.intro (by with_reducible rfl) ?_
                                  conv => whnf
                                  refine And.intro (by with_reducible rfl) ?_
                                  conv => whnf
                                  refine And.intro (by with_reducible rfl) ?_
                                  conv => whnf
                                  refine And.intro (by with_reducible rfl) ?_
                                  conv => whnf
                                  refine And.intro (by with_reducible rfl) ?_
                                  conv => whnf
                                  refine And.intro (by with_reducible rfl) ?_
                                  conv => whnf
                                  refine And.intro (by with_reducible rfl) ?_
                                  conv => whnf
                                  refine And.intro (by with_reducible rfl) ?_
                                  conv => whnf
                                  refine And.intro (by with_reducible rfl) ?_
                                  conv => whnf
                                  refine And.intro (by with_reducible rfl) ?_
                                  conv => whnf
                                  refine And.intro (by with_reducible rfl) ?_
                                  conv => whnf
                                  refine And.intro (by with_reducible rfl) ?_
                                  conv => whnf
                                  refine And.intro (by with_reducible rfl) ?_
                                  conv => whnf
                                  refine And.intro (by with_reducible rfl) ?_
                                  conv => whnf
                                  refine And.intro (by with_reducible rfl) ?_
                                  conv => whnf
                                  refine And.intro (by with_reducible rfl) ?_
                                  conv => whnf
                                  refine And.intro (by with_reducible rfl) ?_
                                  conv => whnf
                                  refine And.intro (by with_reducible rfl) ?_
                                  conv => whnf
                                  refine And.intro (by with_reducible rfl) ?_
                                  conv => whnf
                                  refine And.intro (by with_reducible rfl) ?_
                                  conv => whnf
                                  refine And.intro (by with_reducible rfl) ?_
                                  conv => whnf
                                  refine And.intro (by with_reducible rfl) ?_
                                  conv => whnf
                                  refine And.intro (by with_reducible rfl) ?_
                                  conv => whnf
                                  refine And.intro (by with_reducible rfl) ?_
                                  conv => whnf
                                  refine And.intro (by with_reducible rfl) ?_
                                  conv => whnf
                                  refine And.intro (by with_reducible rfl) ?_
                                  conv => whnf
                                  refine And.intro (by with_reducible rfl) ?_
                                  conv => whnf
                                  refine And.intro (by with_reducible rfl) ?_
                                  conv => whnf
                                  refine And.intro (by with_reducible rfl) ?_
                                  conv => whnf
                                  refine And.intro (by with_reducible rfl) ?_
                                  conv => whnf
                                  refine And.intro (by with_reducible rfl) ?_
                                  conv => whnf
                                  refine And.intro (by with_reducible rfl) ?_
                                  conv => whnf
                                  refine And.intro (by with_reducible rfl) ?_
                                  conv => whnf
                                  refine And.intro (by with_reducible rfl) ?_
                                  conv => whnf
                                  refine And.intro (by with_reducible rfl) ?_
                                  conv => whnf
                                  refine And.intro (by with_reducible rfl) ?_
                                  conv => whnf
                                  refine And.intro (by with_reducible rfl) ?_
                                  conv => whnf
                                  refine And.intro (by with_reducible rfl) ?_
                                  conv => whnf
                                  refine And.intro (by with_reducible rfl) ?_
                                  conv => whnf
                                  refine And.intro (by with_reducible rfl) ?_
                                  conv => whnf
                                  refine And.intro (by with_reducible rfl) ?_
                                  conv => whnf
                                  refine And.intro (by with_reducible rfl) ?_
                                  conv => whnf
                                  refine And.intro (by with_reducible rfl) ?_
                                  conv => whnf
                                  refine And.intro (by with_reducible rfl) ?_
                                  conv => whnf
                                  refine And.intro (by with_reducible rfl) ?_
                                  conv => whnf
                                  refine And.intro (by with_reducible rfl) ?_
                                  conv => whnf
                                  refine And.intro (by with_reducible rfl) ?_
                                  conv => whnf
                                  refine And.intro (by with_reducible rfl) ?_
                                  conv => whnf
                                  refine And.intro (by with_reducible rfl) ?_
                                  conv => whnf
                                  refine And.intro (by with_reducible rfl) ?_
                                  conv => whnf
                                  refine And.intro (by with_reducible rfl) ?_
                                  conv => whnf
                                  refine And.intro (by with_reducible rfl) ?_
                                  conv => whnf
                                  refine And.intro (by with_reducible rfl) ?_
                                  conv => whnf
                                  refine And.intro (by with_reducible rfl) ?_
                                  conv => whnf
                                  refine And.intro (by with_reducible rfl) ?_
                                  conv => whnf
                                  refine And.intro (by with_reducible rfl) ?_
                                  conv => whnf
                                  refine And.intro (by with_reducible rfl) ?_
                                  conv => whnf
                                  refine And.intro (by with_reducible rfl) ?_
                                  conv => whnf
                                  refine And.intro (by with_reducible rfl) ?_
                                  conv => whnf
                                  refine And.intro (by with_reducible rfl) ?_
                                  conv => whnf
                                  refine And.intro (by with_reducible rfl) ?_
                                  conv => whnf
                                  refine And.intro (by with_reducible rfl) ?_
                                  conv => whnf
                                  refine And.intro (by with_reducible rfl) ?_
                                  conv => whnf
                                  refine And.intro (by with_reducible rfl) ?_
                                  conv => whnf
                                  refine And.intro (by with_reducible rfl) ?_
                                  conv => whnf
                                  refine And.intro (by with_reducible rfl) ?_
                                  conv => whnf
                                  refine And.intro (by with_reducible rfl) ?_
                                  conv => whnf
                                  refine And.intro (by with_reducible rfl) ?_
                                  conv => whnf
                                  refine And.intro (by with_reducible rfl) ?_
                                  conv => whnf
                                  refine And.intro (by with_reducible rfl) ?_
                                  conv => whnf
                                  refine And.intro (by with_reducible rfl) ?_
                                  conv => whnf
                                  refine And.intro (by with_reducible rfl) ?_
                                  conv => whnf
                                  refine And.intro (by with_reducible rfl) ?_
                                  conv => whnf
                                  refine And.intro (by with_reducible rfl) ?_
                                  conv => whnf
                                  refine And.intro (by with_reducible rfl) ?_
                                  conv => whnf
                                  refine And.intro (by with_reducible rfl) ?_
                                  conv => whnf
                                  refine And.intro (by with_reducible rfl) ?_
                                  conv => whnf
                                  refine And.intro (by with_reducible rfl) ?_
                                  conv => whnf
                                  refine And.intro (by with_reducible rfl) ?_
                                  conv => whnf
                                  refine And.intro (by with_reducible rfl) ?_
                                  conv => whnf
                                  refine And.intro (by with_reducible rfl) ?_
                                  conv => whnf
                                  refine And.intro (by with_reducible rfl) ?_
                                  conv => whnf
                                  refine And.intro (by with_reducible rfl) ?_
                                  conv => whnf
                                  refine And.intro (by with_reducible rfl) ?_
                                  conv => whnf
                                  refine And.intro (by with_reducible rfl) ?_
                                  conv => whnf
                                  refine And.intro (by with_reducible rfl) ?_
                                  conv => whnf
                                  refine And.intro (by with_reducible rfl) ?_
                                  conv => whnf
                                  refine And.intro (by with_reducible rfl) ?_
                                  conv => whnf
                                  refine And.intro (by with_reducible rfl) ?_
                                  conv => whnf
                                  refine And.intro (by with_reducible rfl) ?_
                                  conv => whnf
                                  refine And.intro (by with_reducible rfl) ?_
                                  conv => whnf
                                  refine And.intro (by with_reducible rfl) ?_
                                  conv => whnf
                                  refine And.intro (by with_reducible rfl) ?_
                                  conv => whnf
                                  refine And.intro (by with_reducible rfl) ?_
                                  conv => whnf
                                  refine And.intro (by with_reducible rfl) ?_
                                  conv => whnf
                                  refine And.intro (by with_reducible rfl) ?_
                                  conv => whnf
                                  refine And.intro (by with_reducible rfl) ?_
                                  conv => whnf
                                  refine And.intro (by with_reducible rfl) ?_
                                  conv => whnf
                                  refine And.intro (by with_reducible rfl) ?_
                                  conv => whnf
                                  refine And.intro (by with_reducible rfl) ?_
                                  conv => whnf
                                  refine And.intro (by with_reducible rfl) ?_
                                  conv => whnf
                                  refine And.intro (by with_reducible rfl) ?_
                                  conv => whnf
                                  refine And.intro (by with_reducible rfl) ?_
                                  conv => whnf
                                  refine And.intro (by with_reducible rfl) ?_
                                  conv => whnf
                                  refine And.intro (by with_reducible rfl) ?_
                                  conv => whnf
                                  refine And.intro (by with_reducible rfl) ?_
                                  conv => whnf
                                  refine And.intro (by with_reducible rfl) ?_
                                  conv => whnf
                                  refine And.intro (by with_reducible rfl) ?_
                                  conv => whnf
                                  refine And.intro (by with_reducible rfl) ?_
                                  conv => whnf
                                  refine And.intro (by with_reducible rfl) ?_
                                  exact True.intro
                      · replace hc5 := of_decide_eq_false hc5
                        conv => whnf
                        refine ⟨_, s8_good ?_, ?_⟩
                        · assumption
                        · conv => whnf
                          refine br_l rfl rfl ?_
                          conv => whnf
                          refine br_l rfl rfl ?_
                          conv => whnf
                          refine br_l rfl rfl ?_
                          conv => whnf
                          refine And.intro (fun hc10 => ?_) (fun hc10 => ?_)
                          · replace hc10 := of_decide_eq_false hc10
                            conv => whnf
                            refine br_l rfl rfl ?_
                            conv => whnf
                            refine br_l rfl rfl ?_
                            conv => whnf
                            refine br_l rfl rfl ?_
                            conv => whnf
                            refine ⟨_, sm_good ?_, ?_⟩
                            · assumption
                            · conv => whnf
                              refine br_l rfl rfl ?_
                              conv => whnf
                              refine br_r rfl rfl ?_
                              conv => whnf
                              refine br_l rfl rfl ?_
                              conv => whnf
                              refine br_l rfl rfl ?_
                              conv => whnf
                              refine ⟨_, awake9_good, ?_⟩
                              conv => whnf
                              refine br_l rfl rfl ?_
                              conv => whnf
                              refine AV.of_eqv ?_
                              conv => whnf
                              refine And.intro (by with_reducible rfl) ?_
                              exact True.intro
                          · replace hc10 := of_decide_eq_true hc10
                            conv => whnf
                            refine br_r rfl rfl ?_
                            conv => whnf
                            refine br_r rfl rfl ?_
                            conv => whnf
                            refine br_r rfl rfl ?_
                            conv => whnf
                            refine br_l rfl rfl ?_
                            conv => whnf
                            refine br_l rfl rfl ?_
                            conv => whnf
                            refine br_l rfl rfl ?_
                            conv => whnf
                            refine br_l rfl rfl ?_
                            conv => whnf
                            refine ⟨_, awake9_good, ?_⟩
                            conv => whnf
                            refine br_l rfl rfl ?_
                            conv => whnf
                            refine AV.of_eqv ?_
                            conv => whnf
                            refine And.intro (by with_reducible rfl) ?_
                            exact True.intro
      · replace hc2 := of_decide_eq_false hc2
        conv => whnf
        refine And.intro (by decide) ?_
        conv => whnf
        refine ⟨_, of_good _ _ ?_ ?_, ?_⟩
        · (simp only [map_rows] at *; omega)
        · assumption
        · conv => whnf
          refine ⟨_, b1_good ?_, ?_⟩
          · assumption
          · conv => whnf
            refine ⟨_, r1_good ?_, ?_⟩
            · assumption
            · conv => whnf
              refine br_l rfl rfl ?_
              conv => whnf
              refine br_l rfl rfl ?_
              conv => whnf
              refine br_r rfl rfl ?_
              conv => whnf
              refine br_l rfl rfl ?_
              conv => whnf
              refine br_l rfl rfl ?_
              conv => whnf
              refine br_l rfl rfl ?_
              conv => whnf
              refine br_r rfl rfl ?_
              conv => whnf
              refine And.intro (fun hc11 => ?_) (fun hc11 => ?_)
              · simp only [Bool.not_eq_true', Bool.not_eq_false', Bool.and_eq_true, Bool.and_eq_false_imp, Bool.or_eq_true, Bool.or_eq_false_iff, Bool.and_true, Bool.true_and, Bool.not_true, Bool.not_false, decide_eq_true_eq, decide_eq_false_iff_not, Bool.decide_and] at hc11
                contradiction
              · simp only [Bool.not_eq_true', Bool.not_eq_false', Bool.and_eq_true, Bool.and_eq_false_imp, Bool.or_eq_true, Bool.or_eq_false_iff, Bool.and_true, Bool.true_and, Bool.not_true, Bool.not_false, decide_eq_true_eq, decide_eq_false_iff_not, Bool.decide_and] at hc11
                conv => whnf
                refine loop_at (α := Nat) [] (fun i => [(18, .int .i64 (IntKind.i64.wrap ((IntKind.u64.wrap x).tmod 60000) + (i : Int)))]) (fun i => []) (fun i => i ≤ 8) (fun i => 8 - i) (0) (st_of ?_) ?_ (by rintro i _; rfl) ?_
                · conv => whnf
                  refine And.intro (by with_reducible rfl) ?_
                  conv => whnf
                  refine And.intro (by with_reducible rfl) ?_
                  conv => whnf
                  refine And.intro (by with_reducible rfl) ?_
                  conv => whnf
                  refine And.intro (by with_reducible rfl) ?_
                  refine And.intro (by with_reducible rfl) ?_
                  conv => whnf
                  refine And.intro (by with_reducible rfl) ?_
                  conv => whnf
                  refine And.intro (by with_reducible rfl) ?_
                  conv => whnf
                  refine And.intro (by with_reducible rfl) ?_
                  conv => whnf
                  refine And.intro (by with_reducible rfl) ?_
                  refine And.intro (by with_reducible rfl) ?_
                  conv => whnf
                  refine And.intro (by with_reducible rfl) ?_
                  conv => whnf
                  refine And.intro (by with_reducible rfl) ?_
                  conv => whnf
                  refine And.intro (by with_reducible rfl) ?_
                  refine And.intro (by with_reducible rfl) ?_
                  conv => whnf
                  refine And.intro (by with_reducible rfl) ?_
                  conv => whnf
                  refine And.intro (by omega) ?_
                  conv => whnf
                  refine And.intro (by with_reducible rfl) ?_
                  conv => whnf
                  refine And.intro (by with_reducible rfl) ?_
                  conv => whnf
                  refine And.intro (by with_reducible rfl) ?_
                  conv => whnf
                  refine And.intro (by with_reducible rfl) ?_
                  conv => whnf
                  refine And.intro (by with_reducible rfl) ?_
                  conv => whnf
                  refine And.intro (by with_reducible rfl) ?_
                  conv => whnf
                  refine And.intro (by with_reducible rfl) ?_
                  conv => whnf
                  refine And.intro (by with_reducible rfl) ?_
                  conv => whnf
                  refine And.intro (by with_reducible rfl) ?_
                  conv => whnf
                  refine And.intro (by with_reducible rfl) ?_
                  conv => whnf
                  refine And.intro (by with_reducible rfl) ?_
                  conv => whnf
                  refine And.intro (by with_reducible rfl) ?_
                  conv => whnf
                  refine And.intro (by with_reducible rfl) ?_
                  conv => whnf
                  refine And.intro (by with_reducible rfl) ?_
                  conv => whnf
                  refine And.intro (by with_reducible rfl) ?_
                  conv => whnf
                  refine And.intro (by with_reducible rfl) ?_
                  conv => whnf
                  refine And.intro (by with_reducible rfl) ?_
                  conv => whnf
                  refine And.intro (by with_reducible rfl) ?_
                  conv => whnf
                  refine And.intro (by with_reducible rfl) ?_
                  conv => whnf
                  refine And.intro (by with_reducible rfl) ?_
                  conv => whnf
                  refine And.intro (by with_reducible rfl) ?_
                  conv => whnf
                  refine And.intro (by with_reducible rfl) ?_
                  conv => whnf
                  refine And.intro (by with_reducible rfl) ?_
                  conv => whnf
                  refine And.intro (by with_reducible rfl) ?_
                  conv => whnf
                  refine And.intro (by with_reducible rfl) ?_
                  conv => whnf
                  refine And.intro (by with_reducible rfl) ?_
                  conv => whnf
                  refine And.intro (by with_reducible rfl) ?_
                  conv => whnf
                  refine And.intro (by with_reducible rfl) ?_
                  conv => whnf
                  refine And.intro (by with_reducible rfl) ?_
                  conv => whnf
                  refine And.intro (by with_reducible rfl) ?_
                  conv => whnf
                  refine And.intro (by with_reducible rfl) ?_
                  conv => whnf
                  refine And.intro (by with_reducible rfl) ?_
                  conv => whnf
                  refine And.intro (by with_reducible rfl) ?_
                  conv => whnf
                  refine And.intro (by with_reducible rfl) ?_
                  conv => whnf
                  refine And.intro (by with_reducible rfl) ?_
                  conv => whnf
                  refine And.intro (by with_reducible rfl) ?_
                  conv => whnf
                  refine And.intro (by with_reducible rfl) ?_
                  conv => whnf
                  refine And.intro (by with_reducible rfl) ?_
                  conv => whnf
                  refine And.intro (by with_reducible rfl) ?_
                  conv => whnf
                  refine And.intro (by with_reducible rfl) ?_
                  conv => whnf
                  refine And.intro (by with_reducible rfl) ?_
                  conv => whnf
                  refine And.intro (by with_reducible rfl) ?_
                  conv => whnf
                  refine And.intro (by with_reducible rfl) ?_
                  conv => whnf
                  refine And.intro (by with_reducible rfl) ?_
                  conv => whnf
                  refine And.intro (by with_reducible rfl) ?_
                  conv => whnf
                  refine And.intro (by with_reducible rfl) ?_
                  conv => whnf
                  refine And.intro (by with_reducible rfl) ?_
                  conv => whnf
                  refine And.intro (by with_reducible rfl) ?_
                  conv => whnf
                  refine And.intro (by with_reducible rfl) ?_
                  conv => whnf
                  refine And.intro (by with_reducible rfl) ?_
                  conv => whnf
                  refine And.intro (by with_reducible rfl) ?_
                  conv => whnf
                  refine And.intro (by with_reducible rfl) ?_
                  conv => whnf
                  refine And.intro (by with_reducible rfl) ?_
                  conv => whnf
                  refine And.intro (by with_reducible rfl) ?_
                  conv => whnf
                  refine And.intro (by with_reducible rfl) ?_
                  conv => whnf
                  refine And.intro (by with_reducible rfl) ?_
                  conv => whnf
                  refine And.intro (by with_reducible rfl) ?_
                  conv => whnf
                  refine And.intro (by with_reducible rfl) ?_
                  conv => whnf
                  refine And.intro (by with_reducible rfl) ?_
                  conv => whnf
                  refine And.intro (by with_reducible rfl) ?_
                  conv => whnf
                  refine And.intro (by with_reducible rfl) ?_
                  conv => whnf
                  refine And.intro (by with_reducible rfl) ?_
                  conv => whnf
                  refine And.intro (by with_reducible rfl) ?_
                  conv => whnf
                  refine And.intro (by with_reducible rfl) ?_
                  conv => whnf
                  refine And.intro (by with_reducible rfl) ?_
                  conv => whnf
                  refine And.intro (by with_reducible rfl) ?_
                  conv => whnf
                  refine And.intro (by with_reducible rfl) ?_
                  conv => whnf
                  refine And.intro (by with_reducible rfl) ?_
                  conv => whnf
                  refine And.intro (by with_reducible rfl) ?_
                  conv => whnf
                  refine And.intro (by with_reducible rfl) ?_
                  conv => whnf
                  refine And.intro (by with_reducible rfl) ?_
                  conv => whnf
                  refine And.intro (by with_reducible rfl) ?_
                  conv => whnf
                  refine And.intro (by with_reducible rfl) ?_
                  conv => whnf
                  refine And.intro (by with_reducible rfl) ?_
                  conv => whnf
                  refine And.intro (by with_reducible rfl) ?_
                  conv => whnf
                  refine And.intro (by with_reducible rfl) ?_
                  conv => whnf
                  refine And.intro (by with_reducible rfl) ?_
                  conv => whnf
                  refine And.intro (by with_reducible rfl) ?_
                  conv => whnf
                  refine And.intro (by with_reducible rfl) ?_
                  conv => whnf
                  refine And.intro (by with_reducible rfl) ?_
                  conv => whnf
                  refine And.intro (by with_reducible rfl) ?_
                  conv => whnf
                  refine And.intro (by with_reducible rfl) ?_
                  conv => whnf
                  refine And.intro (by with_reducible rfl) ?_
                  conv => whnf
                  refine And.intro (by with_reducible rfl) ?_
                  conv => whnf
                  refine And.intro (by with_reducible rfl) ?_
                  conv => whnf
                  refine And.intro (by with_reducible rfl) ?_
                  conv => whnf
                  refine And.intro (by with_reducible rfl) ?_
                  conv => whnf
                  refine And.intro (by with_reducible rfl) ?_
                  conv => whnf
                  refine And.intro (by with_reducible rfl) ?_
                  conv => whnf
                  refine And.intro (by with_reducible rfl) ?_
                  conv => whnf
                  refine And.intro (by with_reducible rfl) ?_
                  conv => whnf
                  refine And.intro (by with_reducible rfl) ?_
                  conv => whnf
                  refine And.intro (by with_reducible rfl) ?_
                  conv => whnf
                  refine And.intro (by with_reducible rfl) ?_
                  conv => whnf
                  refine And.intro (by with_reducible rfl) ?_
                  conv => whnf
                  refine And.intro (by with_reducible rfl) ?_
                  conv => whnf
                  refine And.intro (by with_reducible rfl) ?_
                  conv => whnf
                  refine And.intro (by with_reducible rfl) ?_
                  conv => whnf
                  refine And.intro (by with_reducible rfl) ?_
                  conv => whnf
                  refine And.intro (by with_reducible rfl) ?_
                  conv => whnf
                  refine And.intro (by with_reducible rfl) ?_
                  conv => whnf
                  refine And.intro (by with_reducible rfl) ?_
                  conv => whnf
                  refine And.intro (by with_reducible rfl) ?_
                  conv => whnf
                  refine And.intro (by with_reducible rfl) ?_
                  conv => whnf
                  refine And.intro (by with_reducible rfl) ?_
                  conv => whnf
                  refine And.intro (by with_reducible rfl) ?_
                  conv => whnf
                  refine And.intro (by with_reducible rfl) ?_
                  conv => whnf
                  refine And.intro (by with_reducible rfl) ?_
                  conv => whnf
                  refine And.intro (by with_reducible rfl) ?_
                  conv => whnf
                  refine And.intro (by with_reducible rfl) ?_
                  conv => whnf
                  refine And.intro (by with_reducible rfl) ?_
                  conv => whnf
                  refine And.intro (by with_reducible rfl) ?_
                  conv => whnf
                  refine And.intro (by with_reducible rfl) ?_
                  conv => whnf
                  refine And.intro (by with_reducible rfl) ?_
                  conv => whnf
                  refine And.intro (by with_reducible rfl) ?_
                  conv => whnf
                  refine And.intro (by with_reducible rfl) ?_
                  conv => whnf
                  refine And.intro (by with_reducible rfl) ?_
                  conv => whnf
                  refine And.intro (by with_reducible rfl) ?_
                  conv => whnf
                  refine And.intro (by with_reducible rfl) ?_
                  conv => whnf
                  refine And.intro (by with_reducible rfl) ?_
                  conv => whnf
                  refine And.intro (by with_reducible rfl) ?_
                  conv => whnf
                  refine And.intro (by with_reducible rfl) ?_
                  conv => whnf
                  refine And.intro (by with_reducible rfl) ?_
                  conv => whnf
                  refine And.intro (by with_reducible rfl) ?_
                  conv => whnf
                  refine And.intro (by with_reducible rfl) ?_
                  conv => whnf
                  refine And.intro (by with_reducible rfl) ?_
                  conv => whnf
                  refine And.intro (by with_reducible rfl) ?_
                  conv => whnf
                  refine And.intro (by with_reducible rfl) ?_
                  conv => whnf
                  refine And.intro (by with_reducible rfl) ?_
                  conv => whnf
                  refine And.intro (by with_reducible rfl) ?_
                  conv => whnf
                  refine And.intro (by with_reducible rfl) ?_
                  conv => whnf
                  refine And.intro (by with_reducible rfl) ?_
                  conv => whnf
                  refine And.intro (by with_reducible rfl) ?_
                  conv => whnf
                  refine And.intro (by with_reducible rfl) ?_
                  conv => whnf
                  refine And.intro (by with_reducible rfl) ?_
                  conv => whnf
                  refine And.intro (by with_reducible rfl) ?_
                  conv => whnf
                  refine And.intro (by with_reducible rfl) ?_
                  conv => whnf
                  refine And.intro (by with_reducible rfl) ?_
                  conv => whnf
                  refine And.intro (by with_reducible rfl) ?_
                  exact True.intro
                · decide
                · rintro i nextl0 hIl0 ihl0
                  try dsimp only at hIl0
                  conv => whnf
                  refine And.intro (fun hc12 => ?_) (fun hc12 => ?_)
                  · replace hc12 := of_decide_eq_true hc12
                    conv => whnf
                    refine loop_at (α := Nat) [] (fun j => [(93, .int .i64 (j : Int)), (19, .bool ((l.take j).any fun s => decide (s = IntKind.i64.wrap ((IntKind.u64.wrap x).tmod 60000) + (i : Int))))]) (fun j => []) (fun j => j ≤ l.length) (fun j => l.length - j) (0) (st_of ?_) ?_ (by rintro j _; rfl) ?_
                    · conv => whnf
                      refine And.intro (by with_reducible rfl) ?_
                      conv => whnf
                      refine And.intro (by with_reducible rfl) ?_
                      conv => whnf
                      refine And.intro (by with_reducible rfl) ?_
                      conv => whnf
                      refine And.intro (by with_reducible rfl) ?_
                      refine And.intro (by with_reducible rfl) ?_
                      conv => whnf
                      refine And.intro (by with_reducible rfl) ?_
                      conv => whnf
                      refine And.intro (by with_reducible rfl) ?_
                      conv => whnf
                      refine And.intro (by with_reducible rfl) ?_
                      conv => whnf
                      refine And.intro (by with_reducible rfl) ?_
                      refine And.intro (by with_reducible rfl) ?_
                      conv => whnf
                      refine And.intro (by with_reducible rfl) ?_
                      conv => whnf
                      refine And.intro (by with_reducible rfl) ?_
                      conv => whnf
                      refine And.intro (by with_reducible rfl) ?_
                      refine And.intro (by with_reducible rfl) ?_
                      conv => whnf
                      refine And.intro (by with_reducible rfl) ?_
                      conv => whnf
                      refine And.intro (by with_reducible rfl) ?_
                      conv => whnf
                      refine And.intro (by (simp; done)) ?_
                      conv => whnf
                      refine And.intro (by with_reducible rfl) ?_
                      conv => whnf
                      refine And.intro (by with_reducible rfl) ?_
                      conv => whnf
                      refine And.intro (by with_reducible rfl) ?_
                      conv => whnf
                      refine And.intro (by with_reducible rfl) ?_
                      conv => whnf
                      refine And.intro (by with_reducible rfl) ?_
                      conv => whnf
                      refine And.intro (by with_reducible rfl) ?_
                      conv => whnf
                      refine And.intro (by with_reducible rfl) ?_
                      conv => whnf
                      refine And.intro (by with_reducible rfl) ?_
                      conv => whnf
                      refine And.intro (by with_reducible rfl) ?_
                      conv => whnf
                      refine And.intro (by with_reducible rfl) ?_
                      conv => whnf
                      refine And.intro (by with_reducible rfl) ?_
                      conv => whnf
                      refine And.intro (by with_reducible rfl) ?_
                      conv => whnf
                      refine And.intro (by with_reducible rfl) ?_
                      conv => whnf
                      refine And.intro (by with_reducible rfl) ?_
                      conv => whnf
                      refine And.intro (by with_reducible rfl) ?_
                      conv => whnf
                      refine And.intro (by with_reducible rfl) ?_
                      conv => whnf
                      refine And.intro (by with_reducible rfl) ?_
                      conv => whnf
                      refine And.intro (by with_reducible rfl) ?_
                      conv => whnf
                      refine And.intro (by with_reducible rfl) ?_
                      conv => whnf
                      refine And.intro (by with_reducible rfl) ?_
                      conv => whnf
                      refine And.intro (by with_reducible rfl) ?_
                      conv => whnf
                      refine And.intro (by with_reducible rfl) ?_
                      conv => whnf
                      refine And.intro (by with_reducible rfl) ?_
                      conv => whnf
                      refine And.intro (by with_reducible rfl) ?_
                      conv => whnf
                      refine And.intro (by with_reducible rfl) ?_
                      conv => whnf
                      refine And.intro (by with_reducible rfl) ?_
                      conv => whnf
                      refine And.intro (by with_reducible rfl) ?_
                      conv => whnf
                      refine And.intro (by with_reducible rfl) ?_
                      conv => whnf
                      refine And.intro (by with_reducible rfl) ?_
                      conv => whnf
                      refine And.intro (by with_reducible rfl) ?_
                      conv => whnf
                      refine And.intro (by with_reducible rfl) ?_
                      conv => whnf
                      refine And.intro (by with_reducible rfl) ?_
                      conv => whnf
                      refine And.intro (by with_reducible rfl) ?_
                      conv => whnf
                      refine And.intro (by with_reducible rfl) ?_
                      conv => whnf
                      refine And.intro (by with_reducible rfl) ?_
                      conv => whnf
                      refine And.intro (by with_reducible rfl) ?_
                      conv => whnf
                      refine And.intro (by with_reducible rfl) ?_
                      conv => whnf
                      refine And.intro (by with_reducible rfl) ?_
                      conv => whnf
                      refine And.intro (by with_reducible rfl) ?_
                      conv => whnf
                      refine And.intro (by with_reducible rfl) ?_
                      conv => whnf
                      refine And.intro (by with_reducible rfl) ?_
                      conv => whnf
                      refine And.intro (by with_reducible rfl) ?_
                      conv => whnf
                      refine And.intro (by with_reducible rfl) ?_
                      conv => whnf
                      refine And.intro (by with_reducible rfl) ?_
                      conv => whnf
                      refine And.intro (by with_reducible rfl) ?_
                      conv => whnf
                      refine And.intro (by with_reducible rfl) ?_
                      conv => whnf
                      refine And.intro (by with_reducible rfl) ?_
                      conv => whnf
                      refine And.intro (by with_reducible rfl) ?_
                      conv => whnf
                      refine And.intro (by with_reducible rfl) ?_
                      conv => whnf
                      refine And.intro (by with_reducible rfl) ?_
                      conv => whnf
                      refine And.intro (by with_reducible rfl) ?_
                      conv => whnf
                      refine And.intro (by with_reducible rfl) ?_
                      conv => whnf
                      refine And.intro (by with_reducible rfl) ?_
                      conv => whnf
                      refine And.intro (by with_reducible rfl) ?_
                      conv => whnf
                      refine And.intro (by with_reducible rfl) ?_
                      conv => whnf
                      refine And.intro (by with_reducible rfl) ?_
                      conv => whnf
                      refine And.intro (by with_reducible rfl) ?_
                      conv => whnf
                      refine And.intro (by with_reducible rfl) ?_
                      conv => whnf
                      refine And.intro (by with_reducible rfl) ?_
                      conv => whnf
                      refine And.intro (by with_reducible rfl) ?_
                      conv => whnf
                      refine And.intro (by with_reducible rfl) ?_
                      conv => whnf
                      refine And.intro (by with_reducible rfl) ?_
                      conv => whnf
                      refine And.intro (by with_reducible rfl) ?_
                      conv => whnf
                      refine And.intro (by with_reducible rfl) ?_
                      conv => whnf
                      refine And.intro (by with_reducible rfl) ?_
                      conv => whnf
                      refine And.intro (by with_reducible rfl) ?_
                      conv => whnf
                      refine And.intro (by with_reducible rfl) ?_
                      conv => whnf
                      refine And.intro (by with_reducible rfl) ?_
                      conv => whnf
                      refine And.intro (by with_reducible rfl) ?_
                      conv => whnf
                      refine And.intro (by with_reducible rfl) ?_
                      conv => whnf
                      refine And.intro (by with_reducible rfl) ?_
                      conv => whnf
                      refine And.intro (by with_reducible rfl) ?_
                      conv => whnf
                      refine And.intro (by with_reducible rfl) ?_
                      conv => whnf
                      refine And.intro (by with_reducible rfl) ?_
                      conv => whnf
                      refine And.intro (by with_reducible rfl) ?_
                      conv => whnf
                      refine And.intro (by with_reducible rfl) ?_
                      conv => whnf
                      refine And.intro (by with_reducible rfl) ?_
                      conv => whnf
                      refine And.intro (by with_reducible rfl) ?_
                      conv => whnf
                      refine And.intro (by with_reducible rfl) ?_
                      conv => whnf
                      refine And.intro (by with_reducible rfl) ?_
                      conv => whnf
                      refine And.intro (by with_reducible rfl) ?_
                      conv => whnf
                      refine And.intro (by with_reducible rfl) ?_
                      conv => whnf
                      refine And.intro (by with_reducible rfl) ?_
                      conv => whnf
                      refine And.intro (by with_reducible rfl) ?_
                      conv => whnf
                      refine And.intro (by with_reducible rfl) ?_
                      conv => whnf
                      refine And.intro (by with_reducible rfl) ?_
                      conv => whnf
                      refine And.intro (by with_reducible rfl) ?_
                      conv => whnf
                      refine And.intro (by with_reducible rfl) ?_
                      conv => whnf
                      refine And.intro (by with_reducible rfl) ?_
                      conv => whnf
                      refine And.intro (by with_reducible rfl) ?_
                      conv => whnf
                      refine And.intro (by with_reducible rfl) ?_
                      conv => whnf
                      refine And.intro (by with_reducible rfl) ?_
                      conv => whnf
                      refine And.intro (by with_reducible rfl) ?_
                      conv => whnf
                      refine And.intro (by with_reducible rfl) ?_
                      conv => whnf
                      refine And.intro (by with_reducible rfl) ?_
                      conv => whnf
                      refine And.intro (by with_reducible rfl) ?_
                      conv => whnf
                      refine And.intro (by with_reducible rfl) ?_
                      conv => whnf
                      refine And.intro (by with_reducible rfl) ?_
                      conv => whnf
                      refine And.intro (by with_reducible rfl) ?_
                      conv => whnf
                      refine And.intro (by with_reducible rfl) ?_
                      conv => whnf
                      refine And.intro (by with_reducible rfl) ?_
                      conv => whnf
                      refine And.intro (by with_reducible rfl) ?_
                      conv => whnf
                      refine And.intro (by with_reducible rfl) ?_
                      conv => whnf
                      refine And.intro (by with_reducible rfl) ?_
                      conv => whnf
                      refine And.intro (by with_reducible rfl) ?_
                      conv => whnf
                      refine And.intro (by with_reducible rfl) ?_
                      conv => whnf
                      refine And.intro (by with_reducible rfl) ?_
                      conv => whnf
                      refine And.intro (by with_reducible rfl) ?_
                      conv => whnf
                      refine And.intro (by with_reducible rfl) ?_
                      conv => whnf
                      refine And.intro (by with_reducible rfl) ?_
                      conv => whnf
                      refine And.intro (by with_reducible rfl) ?_
                      conv => whnf
                      refine And.intro (by with_reducible rfl) ?_
                      conv => whnf
                      refine And.intro (by with_reducible rfl) ?_
                      conv => whnf
                      refine And.intro (by with_reducible rfl) ?_
                      conv => whnf
                      refine And.intro (by with_reducible rfl) ?_
                      conv => whnf
                      refine And.intro (by with_reducible rfl) ?_
                      conv => whnf
                      refine And.intro (by with_reducible rfl) ?_
                      conv => whnf
                      refine And.intro (by with_reducible rfl) ?_
                      conv => whnf
                      refine And.intro (by with_reducible rfl) ?_
                      conv => whnf
                      refine And.intro (by with_reducible rfl) ?_
                      conv => whnf
                      refine And.intro (by with_reducible rfl) ?_
                      conv => whnf
                      refine And.intro (by with_reducible rfl) ?_
                      conv => whnf
                      refine And.intro (by with_reducible rfl) ?_
                      conv => whnf
                      refine And.intro (by with_reducible rfl) ?_
                      conv => whnf
                      refine And.intro (by decide) ?_
                      conv => whnf
                      refine And.intro (by with_reducible rfl) ?_
                      conv => whnf
                      refine And.intro (by with_reducible rfl) ?_
                      conv => whnf
                      refine And.intro (by with_reducible rfl) ?_
                      conv => whnf
                      refine And.intro (by with_reducible rfl) ?_
                      conv => whnf
                      refine And.intro (by with_reducible rfl) ?_
                      conv => whnf
                      refine And.intro (by with_reducible rfl) ?_
                      conv => whnf
                      refine And.intro (by with_reducible rfl) ?_
                      conv => whnf
                      refine And.intro (by with_reducible rfl) ?_
                      conv => whnf
                      refine And.intro (by with_reducible rfl) ?_
                      conv => whnf
                      refine And.intro (by with_reducible rfl) ?_
                      conv => whnf
                      refine And.intro (by with_reducible rfl) ?_
                      conv => whnf
                      refine And.intro (by with_reducible rfl) ?_
                      conv => whnf
                      refine And.intro (by with_reducible rfl) ?_
                      conv => whnf
                      refine And.intro (by with_reducible rfl) ?_
                      conv => whnf
                      refine And.intro (by with_reducible rfl) ?_
                      conv => whnf
                      refine And.intro (by with_reducible rfl) ?_
                      conv => whnf
                      refine And.intro (by with_reducible rfl) ?_
                      conv => whnf
                      refine And.intro (by with_reducible rfl) ?_
                      conv => whnf
                      refine And.intro (by with_reducible rfl) ?_
                      conv => whnf
                      refine And.intro (by with_reducible rfl) ?_
                      conv => whnf
                      refine And.intro (by with_reducible rfl) ?_
                      exact True.intro
                    · omega
                    · rintro j nextl1 hIl1 ihl1
                      try dsimp only at hIl1
                      conv => whnf
                      refine And.intro (fun hc13 => ?_) (fun hc13 => ?_)
                      · replace hc13 := of_decide_eq_true hc13
                        conv => whnf
                        refine And.intro (by omega) ?_
                        refine ex_row (l := l) ?_ fun y hy => ?_
                        · (simp only [map_rows] at *; omega)
                        · simp only [toNat_ofNat] at hy
                          conv => whnf
                          refine And.intro (fun hc15 => ?_) (fun hc15 => ?_)
                          · conv => whnf
                            refine br_l rfl rfl ?_
                            conv => whnf
                            refine br_l rfl rfl ?_
                            conv => whnf
                            refine br_r rfl rfl ?_
                            conv => whnf
                            refine ihl1 (j + 1) _ ?_ ?_ (st_of ?_)
                            · (simp only [map_rows] at *; omega)
                            · (simp only [map_rows] at *; omega)
                            · conv => whnf
                              refine And.intro (by with_reducible rfl) ?_
                              conv => whnf
                              refine And.intro (by with_reducible rfl) ?_
                              conv => whnf
                              refine And.intro (by with_reducible rfl) ?_
                              conv => whnf
                              refine And.intro (by with_reducible rfl) ?_
                              refine And.intro (by with_reducible rfl) ?_
                              conv => whnf
                              refine And.intro (by with_reducible rfl) ?_
                              conv => whnf
                              refine And.intro (by with_reducible rfl) ?_
                              conv => whnf
                              refine And.intro (by with_reducible rfl) ?_
                              conv => whnf
                              refine And.intro (by with_reducible rfl) ?_
                              refine And.intro (by with_reducible rfl) ?_
                              conv => whnf
                              refine And.intro (by with_reducible rfl) ?_
                              conv => whnf
                              refine And.intro (by with_reducible rfl) ?_
                              conv => whnf
                              refine And.intro (by with_reducible rfl) ?_
                              refine And.intro (by with_reducible rfl) ?_
                              conv => whnf
                              refine And.intro (by with_reducible rfl) ?_
                              conv => whnf
                              refine And.intro (by with_reducible rfl) ?_
                              conv => whnf
                              refine And.intro (by (exact any_n hy (by assumption))) ?_
                              conv => whnf
                              refine And.intro (by with_reducible rfl) ?_
                              conv => whnf
                              refine And.intro (by with_reducible rfl) ?_
                              conv => whnf
                              refine And.intro (by with_reducible rfl) ?_
                              conv => whnf
                              refine And.intro (by with_reducible rfl) ?_
                              conv => whnf
                              refine And.intro (by with_reducible rfl) ?_
                              conv => whnf
                              refine And.intro (by with_reducible rfl) ?_
                              conv => whnf
                              refine And.intro (by with_reducible rfl) ?_
                              conv => whnf
                              refine And.intro (by with_reducible rfl) ?_
                              conv => whnf
                              refine And.intro (by with_reducible rfl) ?_
                              conv => whnf
                              refine And.intro (by with_reducible rfl) ?_
                              conv => whnf
                              refine And.intro (by with_reducible rfl) ?_
                              conv => whnf
                              refine And.intro (by with_reducible rfl) ?_
                              conv => whnf
                              refine And.intro (by with_reducible rfl) ?_
                              conv => whnf
                              refine And.intro (by with_reducible rfl) ?_
                              conv => whnf
                              refine And.intro (by with_reducible rfl) ?_
                              conv => whnf
                              refine And.intro (by with_reducible rfl) ?_
                              conv => whnf
                              refine And.intro (by with_reducible rfl) ?_
                              conv => whnf
                              refine And.intro (by with_reducible rfl) ?_
                              conv => whnf
                              refine And.intro (by with_reducible rfl) ?_
                              conv => whnf
                              refine And.intro (by with_reducible rfl) ?_
                              conv => whnf
                              refine And.intro (by with_reducible rfl) ?_
                              conv => whnf
                              refine And.intro (by with_reducible rfl) ?_
                              conv => whnf
                              refine And.intro (by with_reducible rfl) ?_
                              conv => whnf
                              refine And.intro (by with_reducible rfl) ?_
                              conv => whnf
                              refine And.intro (by with_reducible rfl) ?_
                              conv => whnf
                              refine And.intro (by with_reducible rfl) ?_
                              conv => whnf
                              refine And.intro (by with_reducible rfl) ?_
                              conv => whnf
                              refine And.intro (by with_reducible rfl) ?_
                              conv => whnf
                              refine And.intro (by with_reducible rfl) ?_
                              conv => whnf
                              refine And.intro (by with_reducible rfl) ?_
                              conv => whnf
                              refine And.intro (by with_reducible rfl) ?_
                              conv => whnf
                              refine And.intro (by with_reducible rfl) ?_
                              conv => whnf
                              refine And.intro (by with_reducible rfl) ?_
                              conv => whnf
                              refine And.intro (by with_reducible rfl) ?_
                              conv => whnf
                              refine And.intro (by with_reducible rfl) ?_
                              conv => whnf
                              refine And.intro (by with_reducible rfl) ?_
                              conv => whnf
                              refine And.intro (by with_reducible rfl) ?_
                              conv => whnf
                              refine And.intro (by with_reducible rfl) ?_
                              conv => whnf
                              refine And.intro (by with_reducible rfl) ?_
                              conv => whnf
                              refine And.intro (by with_reducible rfl) ?_
                              conv => whnf
                              refine And.intro (by with_reducible rfl) ?_
                              conv => whnf
                              refine And.intro (by with_reducible rfl) ?_
                              conv => whnf
                              refine And.intro (by with_reducible rfl) ?_
                              conv => whnf
                              refine And.intro (by with_reducible rfl) ?_
                              conv => whnf
                              refine And.intro (by with_reducible rfl) ?_
                              conv => whnf
                              refine And.intro (by with_reducible rfl) ?_
                              conv => whnf
                              refine And.intro (by with_reducible rfl) ?_
                              conv => whnf
                              refine And.intro (by with_reducible rfl) ?_
                              conv => whnf
                              refine And.intro (by with_reducible rfl) ?_
                              conv => whnf
                              refine And.intro (by with_reducible rfl) ?_
                              conv => whnf
                              refine And.intro (by with_reducible rfl) ?_
                              conv => whnf
                              refine And.intro (by with_reducible rfl) ?_
                              conv => whnf
                              refine And.intro (by with_reducible rfl) ?_
                              conv => whnf
                              refine And.intro (by with_reducible rfl) ?_
                              conv => whnf
                              refine And.intro (by with_reducible rfl) ?_
                              conv => whnf
                              refine And.intro (by with_reducible rfl) ?_
                              conv => whnf
                              refine And.intro (by with_reducible rfl) ?_
                              conv => whnf
                              refine And.intro (by with_reducible rfl) ?_
                              conv => whnf
                              refine And.intro (by with_reducible rfl) ?_
                              conv => whnf
                              refine And.intro (by with_reducible rfl) ?_
                              conv => whnf
                              refine And.intro (by with_reducible rfl) ?_
                              conv => whnf
                              refine And.intro (by with_reducible rfl) ?_
                              conv => whnf
                              refine And.intro (by with_reducible rfl) ?_
                              conv => whnf
                              refine And.intro (by with_reducible rfl) ?_
                              conv => whnf
                              refine And.intro (by with_reducible rfl) ?_
                              conv => whnf
                              refine And.intro (by with_reducible rfl) ?_
                              conv => whnf
                              refine And.intro (by with_reducible rfl) ?_
                              conv => whnf
                              refine And.intro (by with_reducible rfl) ?_
                              conv => whnf
                              refine And.intro (by with_reducible rfl) ?_
                              conv => whnf
                              refine And.intro (by with_reducible rfl) ?_
                              conv => whnf
                              refine And.intro (by with_reducible rfl) ?_
                              conv => whnf
                              refine And.intro (by with_reducible rfl) ?_
                              conv => whnf
                              refine And.intro (by with_reducible rfl) ?_
                              conv => whnf
                              refine And.intro (by with_reducible rfl) ?_
                              conv => whnf
                              refine And.intro (by with_reducible rfl) ?_
                              conv => whnf
                              refine And.intro (by with_reducible rfl) ?_
                              conv => whnf
                              refine And.intro (by with_reducible rfl) ?_
                              conv => whnf
                              refine And.intro (by with_reducible rfl) ?_
                              conv => whnf
                              refine And.intro (by with_reducible rfl) ?_
                              conv => whnf
                              refine And.intro (by with_reducible rfl) ?_
                              conv => whnf
                              refine And.intro (by with_reducible rfl) ?_
                              conv => whnf
                              refine And.intro (by with_reducible rfl) ?_
                              conv => whnf
                              refine And.intro (by with_reducible rfl) ?_
                              conv => whnf
                              refine And.intro (by with_reducible rfl) ?_
                              conv => whnf
                              refine And.intro (by with_reducible rfl) ?_
                              conv => whnf
                              refine And.intro (by with_reducible rfl) ?_
                              conv => whnf
                              refine And.intro (by with_reducible rfl) ?_
                              conv => whnf
                              refine And.intro (by with_reducible rfl) ?_
                              conv => whnf
                              refine And.intro (by with_reducible rfl) ?_
                              conv => whnf
                              refine And.intro (by with_reducible rfl) ?_
                              conv => whnf
                              refine And.intro (by with_reducible rfl) ?_
                              conv => whnf
                              refine And.intro (by with_reducible rfl) ?_
                              conv => whnf
                              refine And.intro (by with_reducible rfl) ?_
                              conv => whnf
                              refine And.intro (by with_reducible rfl) ?_
                              conv => whnf
                              refine And.intro (by with_reducible rfl) ?_
                              conv => whnf
                              refine And.intro (by with_reducible rfl) ?_
                              conv => whnf
                              refine And.intro (by with_reducible rfl) ?_
                              conv => whnf
                              refine And.intro (by with_reducible rfl) ?_
                              conv => whnf
                              refine And.intro (by with_reducible rfl) ?_
                              conv => whnf
                              refine And.intro (by with_reducible rfl) ?_
                              conv => whnf
                              refine And.intro (by with_reducible rfl) ?_
                              conv => whnf
                              refine And.intro (by with_reducible rfl) ?_
                              conv => whnf
                              refine And.intro (by with_reducible rfl) ?_
                              conv => whnf
                              refine And.intro (by with_reducible rfl) ?_
                              conv => whnf
                              refine And.intro (by with_reducible rfl) ?_
                              conv => whnf
                              refine And.intro (by with_reducible rfl) ?_
                              conv => whnf
                              refine And.intro (by with_reducible rfl) ?_
                              conv => whnf
                              refine And.intro (by with_reducible rfl) ?_
                              conv => whnf
                              refine And.intro (by with_reducible rfl) ?_
                              conv => whnf
                              refine And.intro (by with_reducible rfl) ?_
                              conv => whnf
                              refine And.intro (by with_reducible rfl) ?_
                              conv => whnf
                              refine And.intro (by with_reducible rfl) ?_
                              conv => whnf
                              refine And.intro (by with_reducible rfl) ?_
                              conv => whnf
                              refine And.intro (by with_reducible rfl) ?_
                              conv => whnf
                              refine And.intro (by with_reducible rfl) ?_
                              conv => whnf
                              refine And.intro (by with_reducible rfl) ?_
                              conv => whnf
                              refine And.intro (by with_reducible rfl) ?_
                              conv => whnf
                              refine And.intro (by with_reducible rfl) ?_
                              conv => whnf
                              refine And.intro (by with_reducible rfl) ?_
                              conv => whnf
                              refine And.intro (by with_reducible rfl) ?_
                              conv => whnf
                              refine And.intro (by with_reducible rfl) ?_
                              conv => whnf
                              refine And.intro (by with_reducible rfl) ?_
                              conv => whnf
                              refine And.intro (by with_reducible rfl) ?_
                              conv => whnf
                              refine And.intro (by with_reducible rfl) ?_
                              conv => whnf
                              refine And.intro (by (simp only [wrap_i64, wrap_u64, wrap_u32, wrap_u16, wrap_u8, maxLen_eq, mmI] at *; omega)) ?_
                              conv => whnf
                              refine And.intro (by with_reducible rfl) ?_
                              conv => whnf
                              refine And.intro (by with_reducible rfl) ?_
                              conv => whnf
                              refine And.intro (by with_reducible rfl) ?_
                              conv => whnf
                              refine And.intro (by with_reducible rfl) ?_
                              conv => whnf
                              refine And.intro (by with_reducible rfl) ?_
                              conv => whnf
                              refine And.intro (by with_reducible rfl) ?_
                              conv => whnf
                              refine And.intro (by with_reducible rfl) ?_
                              conv => whnf
                              refine And.intro (by with_reducible rfl) ?_
                              conv => whnf
                              refine And.intro (by with_reducible rfl) ?_
                              conv => whnf
                              refine And.intro (by with_reducible rfl) ?_
                              conv => whnf
                              refine And.intro (by with_reducible rfl) ?_
                              conv => whnf
                              refine And.intro (by with_reducible rfl) ?_
                              conv => whnf
                              refine And.intro (by with_reducible rfl) ?_
                              conv => whnf
                              refine And.intro (by with_reducible rfl) ?_
                              conv => whnf
                              refine And.intro (by with_reducible rfl) ?_
                              conv => whnf
                              refine And.intro (by with_reducible rfl) ?_
                              conv => whnf
                              refine And.intro (by with_reducible rfl) ?_
                              conv => whnf
                              refine And.intro (by with_reducible rfl) ?_
                              conv => whnf
                              refine And.intro (by with_reducible rfl) ?_
                              conv => whnf
                              refine And.intro (by with_reducible rfl) ?_
                              conv => whnf
                              refine And.intro (by with_reducible rfl) ?_
                              exact True.intro
                          · simp only [Bool.not_eq_true', Bool.not_eq_false', Bool.and_eq_true, Bool.and_eq_false_imp, Bool.or_eq_true, Bool.or_eq_false_iff, Bool.and_true, Bool.true_and, Bool.not_true, Bool.not_false, decide_eq_true_eq, decide_eq_false_iff_not, Bool.decide_and] at hc15
                            conv => whnf
                            refine br_r rfl rfl ?_
                            conv => whnf
                            refine br_r rfl rfl ?_
                            conv => whnf
                            refine br_l rfl rfl ?_
                            conv => whnf
                            refine ihl1 (j + 1) _ ?_ ?_ (st_of ?_)
                            · (simp only [map_rows] at *; omega)
                            · (simp only [map_rows] at *; omega)
                            · conv => whnf
                              refine And.intro (by with_reducible rfl) ?_
                              conv => whnf
                              refine And.intro (by with_reducible rfl) ?_
                              conv => whnf
                              refine And.intro (by with_reducible rfl) ?_
                              conv => whnf
                              refine And.intro (by with_reducible rfl) ?_
                              refine And.intro (by with_reducible rfl) ?_
                              conv => whnf
                              refine And.intro (by with_reducible rfl) ?_
                              conv => whnf
                              refine And.intro (by with_reducible rfl) ?_
                              conv => whnf
                              refine And.intro (by with_reducible rfl) ?_
                              conv => whnf
                              refine And.intro (by with_reducible rfl) ?_
                              refine And.intro (by with_reducible rfl) ?_
                              conv => whnf
                              refine And.intro (by with_reducible rfl) ?_
                              conv => whnf
                              refine And.intro (by with_reducible rfl) ?_
                              conv => whnf
                              refine And.intro (by with_reducible rfl) ?_
                              refine And.intro (by with_reducible rfl) ?_
                              conv => whnf
                              refine And.intro (by with_reducible rfl) ?_
                              conv => whnf
                              refine And.intro (by with_reducible rfl) ?_
                              conv => whnf
                              refine And.intro (by (exact any_y hy (by assumption))) ?_
                              conv => whnf
                              refine And.intro (by with_reducible rfl) ?_
                              conv => whnf
                              refine And.intro (by with_reducible rfl) ?_
                              conv => whnf
                              refine And.intro (by with_reducible rfl) ?_
                              conv => whnf
                              refine And.intro (by with_reducible rfl) ?_
                              conv => whnf
                              refine And.intro (by with_reducible rfl) ?_
                              conv => whnf
                              refine And.intro (by with_reducible rfl) ?_
                              conv => whnf
                              refine And.intro (by with_reducible rfl) ?_
                              conv => whnf
                              refine And.intro (by with_reducible rfl) ?_
                              conv => whnf
                              refine And.intro (by with_reducible rfl) ?_
                              conv => whnf
                              refine And.intro (by with_reducible rfl) ?_
                              conv => whnf
                              refine And.intro (by with_reducible rfl) ?_
                              conv => whnf
                              refine And.intro (by with_reducible rfl) ?_
                              conv => whnf
                              refine And.intro (by with_reducible rfl) ?_
                              conv => whnf
                              refine And.intro (by with_reducible rfl) ?_
                              conv => whnf
                              refine And.intro (by with_reducible rfl) ?_
                              conv => whnf
                              refine And.intro (by with_reducible rfl) ?_
                              conv => whnf
                              refine And.intro (by with_reducible rfl) ?_
                              conv => whnf
                              refine And.intro (by with_reducible rfl) ?_
                              conv => whnf
                              refine And.intro (by with_reducible rfl) ?_
                              conv => whnf
                              refine And.intro (by with_reducible rfl) ?_
                              conv => whnf
                              refine And.intro (by with_reducible rfl) ?_
                              conv => whnf
                              refine And.intro (by with_reducible rfl) ?_
                              conv => whnf
                              refine And.intro (by with_reducible rfl) ?_
                              conv => whnf
                              refine And.intro (by with_reducible rfl) ?_
                              conv => whnf
                              refine And.intro (by with_reducible rfl) ?_
                              conv => whnf
                              refine And.intro (by with_reducible rfl) ?_
                              conv => whnf
                              refine And.intro (by with_reducible rfl) ?_
                              conv => whnf
                              refine And.intro (by with_reducible rfl) ?_
                              conv => whnf
                              refine And.intro (by with_reducible rfl) ?_
                              conv => whnf
                              refine And.intro (by with_reducible rfl) ?_
                              conv => whnf
                              refine And.intro (by with_reducible rfl) ?_
                              conv => whnf
                              refine And.intro (by with_reducible rfl) ?_
                              conv => whnf
                              refine And.intro (by with_reducible rfl) ?_
                              conv => whnf
                              refine And.intro (by with_reducible rfl) ?_
                              conv => whnf
                              refine And.intro (by with_reducible rfl) ?_
                              conv => whnf
                              refine And.intro (by with_reducible rfl) ?_
                              conv => whnf
                              refine And.intro (by with_reducible rfl) ?_
                              conv => whnf
                              refine And.intro (by with_reducible rfl) ?_
                              conv => whnf
                              refine And.intro (by with_reducible rfl) ?_
                              conv => whnf
                              refine And.intro (by with_reducible rfl) ?_
                              conv => whnf
                              refine And.intro (by with_reducible rfl) ?_
                              conv => whnf
                              refine And.intro (by with_reducible rfl) ?_
                              conv => whnf
                              refine And.intro (by with_reducible rfl) ?_
                              conv => whnf
                              refine And.intro (by with_reducible rfl) ?_
                              conv => whnf
                              refine And.intro (by with_reducible rfl) ?_
                              conv => whnf
                              refine And.intro (by with_reducible rfl) ?_
                              conv => whnf
                              refine And.intro (by with_reducible rfl) ?_
                              conv => whnf
                              refine And.intro (by with_reducible rfl) ?_
                              conv => whnf
                              refine And.intro (by with_reducible rfl) ?_
                              conv => whnf
                              refine And.intro (by with_reducible rfl) ?_
                              conv => whnf
                              refine And.intro (by with_reducible rfl) ?_
                              conv => whnf
                              refine And.intro (by with_reducible rfl) ?_
                              conv => whnf
                              refine And.intro (by with_reducible rfl) ?_
                              conv => whnf
                              refine And.intro (by with_reducible rfl) ?_
                              conv => whnf
                              refine And.intro (by with_reducible rfl) ?_
                              conv => whnf
                              refine And.intro (by with_reducible rfl) ?_
                              conv => whnf
                              refine And.intro (by with_reducible rfl) ?_
                              conv => whnf
                              refine And.intro (by with_reducible rfl) ?_
                              conv => whnf
                              refine And.intro (by with_reducible rfl) ?_
                              conv => whnf
                              refine And.intro (by with_reducible rfl) ?_
                              conv => whnf
                              refine And.intro (by with_reducible rfl) ?_
                              conv => whnf
                              refine And.intro (by with_reducible rfl) ?_
                              conv => whnf
                              refine And.intro (by with_reducible rfl) ?_
                              conv => whnf
                              refine And.intro (by with_reducible rfl) ?_
                              conv => whnf
                              refine And.intro (by with_reducible rfl) ?_
                              conv => whnf
                              refine And.intro (by with_reducible rfl) ?_
                              conv => whnf
                              refine And.intro (by with_reducible rfl) ?_
                              conv => whnf
                              refine And.intro (by with_reducible rfl) ?_
                              conv => whnf
                              refine And.intro (by with_reducible rfl) ?_
                              conv => whnf
                              refine And.intro (by with_reducible rfl) ?_
                              conv => whnf
                              refine And.intro (by with_reducible rfl) ?_
                              conv => whnf
                              refine And.intro (by with_reducible rfl) ?_
                              conv => whnf
                              refine And.intro (by with_reducible rfl) ?_
                              conv => whnf
                              refine And.intro (by with_reducible rfl) ?_
                              conv => whnf
                              refine And.intro (by with_reducible rfl) ?_
                              conv => whnf
                              refine And.intro (by with_reducible rfl) ?_
                              conv => whnf
                              refine And.intro (by with_reducible rfl) ?_
                              conv => whnf
                              refine And.intro (by with_reducible rfl) ?_
                              conv => whnf
                              refine And.intro (by with_reducible rfl) ?_
                              conv => whnf
                              refine And.intro (by with_reducible rfl) ?_
                              conv => whnf
                              refine And.intro (by with_reducible rfl) ?_
                              conv => whnf
                              refine And.intro (by with_reducible rfl) ?_
                              conv => whnf
                              refine And.intro (by with_reducible rfl) ?_
                              conv => whnf
                              refine And.intro (by with_reducible rfl) ?_
                              conv => whnf
                              refine And.intro (by with_reducible rfl) ?_
                              conv => whnf
                              refine And.intro (by with_reducible rfl) ?_
                              conv => whnf
                              refine And.intro (by with_reducible rfl) ?_
                              conv => whnf
                              refine And.intro (by with_reducible rfl) ?_
                              conv => whnf
                              refine And.intro (by with_reducible rfl) ?_
                              conv => whnf
                              refine And.intro (by with_reducible rfl) ?_
                              conv => whnf
                              refine And.intro (by with_reducible rfl) ?_
                              conv => whnf
                              refine And.intro (by with_reducible rfl) ?_
                              conv => whnf
                              refine And.intro (by with_reducible rfl) ?_
                              conv => whnf
                              refine And.intro (by with_reducible rfl) ?_
                              conv => whnf
                              refine And.intro (by with_reducible rfl) ?_
                              conv => whnf
                              refine And.intro (by with_reducible rfl) ?_
                              conv => whnf
                              refine And.intro (by with_reducible rfl) ?_
                              conv => whnf
                              refine And.intro (by with_reducible rfl) ?_
                              conv => whnf
                              refine And.intro (by with_reducible rfl) ?_
                              conv => whnf
                              refine And.intro (by with_reducible rfl) ?_
                              conv => whnf
                              refine And.intro (by with_reducible rfl) ?_
                              conv => whnf
                              refine And.intro (by with_reducible rfl) ?_
                              conv => whnf
                              refine And.intro (by with_reducible rfl) ?_
                              conv => whnf
                              refine And.intro (by with_reducible rfl) ?_
                              conv => whnf
                              refine And.intro (by with_reducible rfl) ?_
                              conv => whnf
                              refine And.intro (by with_reducible rfl) ?_
                              conv => whnf
                              refine And.intro (by with_reducible rfl) ?_
                              conv => whnf
                              refine And.intro (by with_reducible rfl) ?_
                              conv => whnf
                              refine And.intro (by with_reducible rfl) ?_
                              conv => whnf
                              refine And.intro (by with_reducible rfl) ?_
                              conv => whnf
                              refine And.intro (by with_reducible rfl) ?_
                              conv => whnf
                              refine And.intro (by with_reducible rfl) ?_
                              conv => whnf
                              refine And.intro (by with_reducible rfl) ?_
                              conv => whnf
                              refine And.intro (by with_reducible rfl) ?_
                              conv => whnf
                              refine And.intro (by with_reducible rfl) ?_
                              conv => whnf
                              refine And.intro (by with_reducible rfl) ?_
                              conv => whnf
                              refine And.intro (by with_reducible rfl) ?_
                              conv => whnf
                              refine And.intro (by with_reducible rfl) ?_
                              conv => whnf
                              refine And.intro (by with_reducible rfl) ?_
                              conv => whnf
                              refine And.intro (by with_reducible rfl) ?_
                              conv => whnf
                              refine And.intro (by with_reducible rfl) ?_
                              conv => whnf
                              refine And.intro (by with_reducible rfl) ?_
                              conv => whnf
                              refine And.intro (by with_reducible rfl) ?_
                              conv => whnf
                              refine And.intro (by with_reducible rfl) ?_
                              conv => whnf
                              refine And.intro (by (simp only [wrap_i64, wrap_u64, wrap_u32, wrap_u16, wrap_u8, maxLen_eq, mmI] at *; omega)) ?_
                              conv => whnf
                              refine And.intro (by with_reducible rfl) ?_
                              conv => whnf
                              refine And.intro (by with_reducible rfl) ?_
                              conv => whnf
                              refine And.intro (by with_reducible rfl) ?_
                              conv => whnf
                              refine And.intro (by with_reducible rfl) ?_
                              conv => whnf
                              refine And.intro (by with_reducible rfl) ?_
                              conv => whnf
                              refine And.intro (by with_reducible rfl) ?_
                              conv => whnf
                              refine And.intro (by with_reducible rfl) ?_
                              conv => whnf
                              refine And.intro (by with_reducible rfl) ?_
                              conv => whnf
                              refine And.intro (by with_reducible rfl) ?_
                              conv => whnf
                              refine And.intro (by with_reducible rfl) ?_
                              conv => whnf
                              refine And.intro (by with_reducible rfl) ?_
                              conv => whnf
                              refine And.intro (by with_reducible rfl) ?_
                              conv => whnf
                              refine And.intro (by with_reducible rfl) ?_
                              conv => whnf
                              refine And.intro (by with_reducible rfl) ?_
                              conv => whnf
                              refine And.intro (by with_reducible rfl) ?_
                              conv => whnf
                              refine And.intro (by with_reducible rfl) ?_
                              conv => whnf
                              refine And.intro (by with_reducible rfl) ?_
                              conv => whnf
                              refine And.intro (by with_reducible rfl) ?_
                              conv => whnf
                              refine And.intro (by with_reducible rfl) ?_
                              conv => whnf
                              refine And.intro (by with_reducible rfl) ?_
                              conv => whnf
                              refine And.intro (by with_reducible rfl) ?_
                              exact True.intro
                      · replace hc13 := of_decide_eq_false hc13
                        conv => whnf
                        refine ⟨_, s1_good ?_ ?_, ?_⟩
                        · assumption
                        · assumption
                        · conv => whnf
                          refine And.intro (fun hc16 => ?_) (fun hc16 => ?_)
                          · replace hc16 := of_decide_eq_false (Bool.not_eq_true' _ |>.mp hc16)
                            (refine absurd ?_ (by assumption); rw [take_end (by simp only [map_rows] at *; omega)])
                          · replace hc16 := of_decide_eq_true (Bool.not_eq_false' _ |>.mp hc16)
                            conv => whnf
                            refine ihl0 (i + 1) _ ?_ ?_ (st_of ?_)
                            · (simp only [wrap_i64, wrap_u64, wrap_u32, wrap_u16, wrap_u8, maxLen_eq, mmI] at *; omega)
                            · (simp only [wrap_i64, wrap_u64, wrap_u32, wrap_u16, wrap_u8, maxLen_eq, mmI] at *; omega)
                            · conv => whnf
                              refine And.intro (by with_reducible rfl) ?_
                              conv => whnf
                              refine And.intro (by with_reducible rfl) ?_
                              conv => whnf
                              refine And.intro (by with_reducible rfl) ?_
                              conv => whnf
                              refine And.intro (by with_reducible rfl) ?_
                              refine And.intro (by with_reducible rfl) ?_
                              conv => whnf
                              refine And.intro (by with_reducible rfl) ?_
                              conv => whnf
                              refine And.intro (by with_reducible rfl) ?_
                              conv => whnf
                              refine And.intro (by with_reducible rfl) ?_
                              conv => whnf
                              refine And.intro (by with_reducible rfl) ?_
                              refine And.intro (by with_reducible rfl) ?_
                              conv => whnf
                              refine And.intro (by with_reducible rfl) ?_
                              conv => whnf
                              refine And.intro (by with_reducible rfl) ?_
                              conv => whnf
                              refine And.intro (by with_reducible rfl) ?_
                              refine And.intro (by with_reducible rfl) ?_
                              conv => whnf
                              refine And.intro (by with_reducible rfl) ?_
                              conv => whnf
                              refine And.intro (by (simp only [wrap_i64, wrap_u64, wrap_u32, wrap_u16, wrap_u8, maxLen_eq, mmI] at *; omega)) ?_
                              conv => whnf
                              refine And.intro (by with_reducible rfl) ?_
                              conv => whnf
                              refine And.intro (by with_reducible rfl) ?_
                              conv => whnf
                              refine And.intro (by with_reducible rfl) ?_
                              conv => whnf
                              refine And.intro (by with_reducible rfl) ?_
                              conv => whnf
                              refine And.intro (by with_reducible rfl) ?_
                              conv => whnf
                              refine And.intro (by with_reducible rfl) ?_
                              conv => whnf
                              refine And.intro (by with_reducible rfl) ?_
                              conv => whnf
                              refine And.intro (by with_reducible rfl) ?_
                              conv => whnf
                              refine And.intro (by with_reducible rfl) ?_
                              conv => whnf
                              refine And.intro (by with_reducible rfl) ?_
                              conv => whnf
                              refine And.intro (by with_reducible rfl) ?_
                              conv => whnf
                              refine And.intro (by with_reducible rfl) ?_
                              conv => whnf
                              refine And.intro (by with_reducible rfl) ?_
                              conv => whnf
                              refine And.intro (by with_reducible rfl) ?_
                              conv => whnf
                              refine And.intro (by with_reducible rfl) ?_
                              conv => whnf
                              refine And.intro (by with_reducible rfl) ?_
                              conv => whnf
                              refine And.intro (by with_reducible rfl) ?_
                              conv => whnf
                              refine And.intro (by with_reducible rfl) ?_
                              conv => whnf
                              refine And.intro (by with_reducible rfl) ?_
                              conv => whnf
                              refine And.intro (by with_reducible rfl) ?_
                              conv => whnf
                              refine And.intro (by with_reducible rfl) ?_
                              conv => whnf
                              refine And.intro (by with_reducible rfl) ?_
                              conv => whnf
                              refine And.intro (by with_reducible rfl) ?_
                              conv => whnf
                              refine And.intro (by with_reducible rfl) ?_
                              conv => whnf
                              refine And.intro (by with_reducible rfl) ?_
                              conv => whnf
                              refine And.intro (by with_reducible rfl) ?_
                              conv => whnf
                              refine And.intro (by with_reducible rfl) ?_
                              conv => whnf
                              refine And.intro (by with_reducible rfl) ?_
                              conv => whnf
                              refine And.intro (by with_reducible rfl) ?_
                              conv => whnf
                              refine And.intro (by with_reducible rfl) ?_
                              conv => whnf
                              refine And.intro (by with_reducible rfl) ?_
                              conv => whnf
                              refine And.intro (by with_reducible rfl) ?_
                              conv => whnf
                              refine And.intro (by with_reducible rfl) ?_
                              conv => whnf
                              refine And.intro (by with_reducible rfl) ?_
                              conv => whnf
                              refine And.intro (by with_reducible rfl) ?_
                              conv => whnf
                              refine And.intro (by with_reducible rfl) ?_
                              conv => whnf
                              refine And.intro (by with_reducible rfl) ?_
                              conv => whnf
                              refine And.intro (by with_reducible rfl) ?_
                              conv => whnf
                              refine And.intro (by with_reducible rfl) ?_
                              conv => whnf
                              refine And.intro (by with_reducible rfl) ?_
                              conv => whnf
                              refine And.intro (by with_reducible rfl) ?_
                              conv => whnf
                              refine And.intro (by with_reducible rfl) ?_
                              conv => whnf
                              refine And.intro (by with_reducible rfl) ?_
                              conv => whnf
                              refine And.intro (by with_reducible rfl) ?_
                              conv => whnf
                              refine And.intro (by with_reducible rfl) ?_
                              conv => whnf
                              refine And.intro (by with_reducible rfl) ?_
                              conv => whnf
                              refine And.intro (by with_reducible rfl) ?_
                              conv => whnf
                              refine And.intro (by with_reducible rfl) ?_
                              conv => whnf
                              refine And.intro (by with_reducible rfl) ?_
                              conv => whnf
                              refine And.intro (by with_reducible rfl) ?_
                              conv => whnf
                              refine And.intro (by with_reducible rfl) ?_
                              conv => whnf
                              refine And.intro (by with_reducible rfl) ?_
                              conv => whnf
                              refine And.intro (by with_reducible rfl) ?_
                              conv => whnf
                              refine And.intro (by with_reducible rfl) ?_
                              conv => whnf
                              refine And.intro (by with_reducible rfl) ?_
                              conv => whnf
                              refine And.intro (by with_reducible rfl) ?_
                              conv => whnf
                              refine And.intro (by with_reducible rfl) ?_
                              conv => whnf
                              refine And.intro (by with_reducible rfl) ?_
                              conv => whnf
                              refine And.intro (by with_reducible rfl) ?_
                              conv => whnf
                              refine And.intro (by with_reducible rfl) ?_
                              conv => whnf
                              refine And.intro (by with_reducible rfl) ?_
                              conv => whnf
                              refine And.intro (by with_reducible rfl) ?_
                              conv => whnf
                              refine And.intro (by with_reducible rfl) ?_
                              conv => whnf
                              refine And.intro (by with_reducible rfl) ?_
                              conv => whnf
                              refine And.intro (by with_reducible rfl) ?_
                              conv => whnf
                              refine And.intro (by with_reducible rfl) ?_
                              conv => whnf
                              refine And.intro (by with_reducible rfl) ?_
                              conv => whnf
                              refine And.intro (by with_reducible rfl) ?_
                              conv => whnf
                              refine And.intro (by with_reducible rfl) ?_
                              conv => whnf
                              refine And.intro (by with_reducible rfl) ?_
                              conv => whnf
                              refine And.intro (by with_reducible rfl) ?_
                              conv => whnf
                              refine And.intro (by with_reducible rfl) ?_
                              conv => whnf
                              refine And.intro (by with_reducible rfl) ?_
                              conv => whnf
                              refine And.intro (by with_reducible rfl) ?_
                              conv => whnf
                              refine And.intro (by with_reducible rfl) ?_
                              conv => whnf
                              refine And.intro (by with_reducible rfl) ?_
                              conv => whnf
                              refine And.intro (by with_reducible rfl) ?_
                              conv => whnf
                              refine And.intro (by with_reducible rfl) ?_
                              conv => whnf
                              refine And.intro (by with_reducible rfl) ?_
                              conv => whnf
                              refine And.intro (by with_reducible rfl) ?_
                              conv => whnf
                              refine And.intro (by with_reducible rfl) ?_
                              conv => whnf
                              refine And.intro (by with_reducible rfl) ?_
                              conv => whnf
                              refine And.intro (by with_reducible rfl) ?_
                              conv => whnf
                              refine And.intro (by with_reducible rfl) ?_
                              conv => whnf
                              refine And.intro (by with_reducible rfl) ?_
                              conv => whnf
                              refine And.intro (by with_reducible rfl) ?_
                              conv => whnf
                              refine And.intro (by with_reducible rfl) ?_
                              conv => whnf
                              refine And.intro (by with_reducible rfl) ?_
                              conv => whnf
                              refine And.intro (by with_reducible rfl) ?_
                              conv => whnf
                              refine And.intro (by with_reducible rfl) ?_
                              conv => whnf
                              refine And.intro (by with_reducible rfl) ?_
                              conv => whnf
                              refine And.intro (by with_reducible rfl) ?_
                              conv => whnf
                              refine And.intro (by with_reducible rfl) ?_
                              conv => whnf
                              refine And.intro (by with_reducible rfl) ?_
                              conv => whnf
                              refine And.intro (by with_reducible rfl) ?_
                              conv => whnf
                              refine And.intro (by with_reducible rfl) ?_
                              conv => whnf
                              refine And.intro (by with_reducible rfl) ?_
                              conv => whnf
                              refine And.intro (by with_reducible rfl) ?_
                              conv => whnf
                              refine And.intro (by with_reducible rfl) ?_
                              conv => whnf
                              refine And.intro (by with_reducible rfl) ?_
                              conv => whnf
                              refine And.intro (by with_reducible rfl) ?_
                              conv => whnf
                              refine And.intro (by with_reducible rfl) ?_
                              conv => whnf
                              refine And.intro (by with_reducible rfl) ?_
                              conv => whnf
                              refine And.intro (by with_reducible rfl) ?_
                              conv => whnf
                              refine And.intro (by with_reducible rfl) ?_
                              conv => whnf
                              refine And.intro (by with_reducible rfl) ?_
                              conv => whnf
                              refine And.intro (by with_reducible rfl) ?_
                              conv => whnf
                              refine And.intro (by with_reducible rfl) ?_
                              conv => whnf
                              refine And.intro (by with_reducible rfl) ?_
                              conv => whnf
                              refine And.intro (by with_reducible rfl) ?_
                              conv => whnf
                              refine And.intro (by with_reducible rfl) ?_
                              conv => whnf
                              refine And.intro (by with_reducible rfl) ?_
                              conv => whnf
                              refine And.intro (by with_reducible rfl) ?_
                              conv => whnf
                              refine And.intro (by with_reducible rfl) ?_
                              conv => whnf
                              refine And.intro (by with_reducible rfl) ?_
                              conv => whnf
                              refine And.intro (by with_reducible rfl) ?_
                              conv => whnf
                              refine And.intro (by with_reducible rfl) ?_
                              conv => whnf
                              refine And.intro (by with_reducible rfl) ?_
                              conv => whnf
                              refine And.intro (by with_reducible rfl) ?_
                              conv => whnf
                              refine And.intro (by with_reducible rfl) ?_
                              conv => whnf
                              refine And.intro (by with_reducible rfl) ?_
                              conv => whnf
                              refine And.intro (by with_reducible rfl) ?_
                              conv => whnf
                              refine And.intro (by with_reducible rfl) ?_
                              conv => whnf
                              refine And.intro (by with_reducible rfl) ?_
                              conv => whnf
                              refine And.intro (by with_reducible rfl) ?_
                              conv => whnf
                              refine And.intro (by with_reducible rfl) ?_
                              conv => whnf
                              refine And.intro (by with_reducible rfl) ?_
                              conv => whnf
                              refine And.intro (by with_reducible rfl) ?_
                              conv => whnf
                              refine And.intro (by with_reducible rfl) ?_
                              conv => whnf
                              refine And.intro (by with_reducible rfl) ?_
                              conv => whnf
                              refine And.intro (by with_reducible rfl) ?_
                              conv => whnf
                              refine And.intro (by with_reducible rfl) ?_
                              conv => whnf
                              refine And.intro (by with_reducible rfl) ?_
                              conv => whnf
                              refine And.intro (by with_reducible rfl) ?_
                              conv => whnf
                              refine And.intro (by with_reducible rfl) ?_
                              conv => whnf
                              refine And.intro (by with_reducible rfl) ?_
                              conv => whnf
                              refine And.intro (by with_reducible rfl) ?_
                              conv => whnf
                              refine And.intro (by with_reducible rfl) ?_
                              conv => whnf
                              refine And.intro (by with_reducible rfl) ?_
                              exact True.intro
                  · replace hc12 := of_decide_eq_false hc12
                    conv => whnf
                    refine ⟨_, s8_good ?_, ?_⟩
                    · assumption
                    · conv => whnf
                      refine br_l rfl rfl ?_
                      conv => whnf
                      refine br_l rfl rfl ?_
                      conv => whnf
                      refine br_l rfl rfl ?_
                      conv => whnf
                      refine And.intro (fun hc17 => ?_) (fun hc17 => ?_)
                      · replace hc17 := of_decide_eq_false hc17
                        conv => whnf
                        refine br_l rfl rfl ?_
                        conv => whnf
                        refine br_l rfl rfl ?_
                        conv => whnf
                        refine br_l rfl rfl ?_
                        conv => whnf
                        refine ⟨_, sm_good ?_, ?_⟩
                        · assumption
                        · conv => whnf
                          refine br_l rfl rfl ?_
                          conv => whnf
                          refine br_r rfl rfl ?_
                          conv => whnf
                          refine br_l rfl rfl ?_
                          conv => whnf
                          refine br_l rfl rfl ?_
                          conv => whnf
                          refine ⟨_, awake9_good, ?_⟩
                          conv => whnf
                          refine br_l rfl rfl ?_
                          conv => whnf
                          refine AV.of_eqv ?_
                          conv => whnf
                          refine And.intro (by with_reducible rfl) ?_
                          exact True.intro
                      · replace hc17 := of_decide_eq_true hc17
                        conv => whnf
                        refine br_r rfl rfl ?_
                        conv => whnf
                        refine br_r rfl rfl ?_
                        conv => whnf
                        refine br_r rfl rfl ?_
                        conv => whnf
                        refine br_l rfl rfl ?_
                        conv => whnf
                        refine br_l rfl rfl ?_
                        conv => whnf
                        refine br_l rfl rfl ?_
                        conv => whnf
                        refine br_l rfl rfl ?_
                        conv => whnf
                        refine ⟨_, awake9_good, ?_⟩
                        conv => whnf
                        refine br_l rfl rfl ?_
                        conv => whnf
                        refine AV.of_eqv ?_
                        conv => whnf
                        refine And.intro (by with_reducible rfl) ?_
                        exact True.intro
  · replace hc0 := of_decide_eq_true hc0
    conv => whnf
    refine br_r rfl rfl ?_
    conv => whnf
    refine br_r rfl rfl ?_
    conv => whnf
    refine br_l rfl rfl ?_
    conv => whnf
    refine br_l rfl rfl ?_
    conv => whnf
    refine ⟨_, awake9_good, ?_⟩
    conv => whnf
    refine AV.of_eqv ?_
    conv => whnf
    refine And.intro (by with_reducible rfl) ?_
    exact True.intro
theorem tl_has {n k : Int} {i : Nat} {x : Int} (h : (tl n (h1 n k n))[i]? = some x) : hasB n k x = true := by
  have hm := List.mem_of_getElem? h
  unfold tl at hm
  split at hm
  · obtain ⟨j, _, hj, rfl⟩ := tk_mem hm; exact hj
  · cases hm
theorem tl_lt {n : Int} {p : Nat → Bool} {i j : Nat} {x y : Int} (hi : (tl n p)[i]? = some x) (hj : (tl n p)[j]? = some y) (h : i < j) : x < y := by
  unfold tl at hi hj
  split at hi
  · rename_i hn
    rw [if_pos hn] at hj
    exact tk_sorted i j x y hi hj h
  · cases hi
theorem h_tl {f a b c d n k : Int} {i : Nat} {x : Int} (h : (tl n (h1 n k n))[i]? = some x) : Good Try.prog 40 [eA f a b c d n k, .int .i64 x] (.bool true) :=
  (has_good f a b c d n k x).eq (by rw [tl_has h])
/-- both together have what either has -/
theorem both_has {f a b c d n k f' a' b' c' d' m q z : Int} {i : Nat} (hz : z = if n < m then m else n) (h0 : 0 ≤ z ∧ z ≤ 60000) (hi : i < 8) :
    hasB (bothA (f, a, b, c, d, n, k) (f', a', b', c', d', m, q)).2.2.2.2.2.1 (bothA (f, a, b, c, d, n, k) (f', a', b', c', d', m, q)).2.2.2.2.2.2 (z + (i : Int)) = (hasB n k (z + (i : Int)) || hasB m q (z + (i : Int))) := by
  by_cases h : n < m
  · rw [if_pos h] at hz
    subst hz
    rw [bothA_y h]
    show hasB z (ofB z _) _ = _
    rw [has_of h0 hi, tl_yes (by omega), tk_any hi]
  · rw [if_neg h] at hz
    subst hz
    rw [bothA_x h]
    show hasB z (ofB z _) _ = _
    rw [has_of h0 hi, tl_yes (by omega), tk_any hi]
end Go.Proofs.Ytkcdeefnkbbacaa

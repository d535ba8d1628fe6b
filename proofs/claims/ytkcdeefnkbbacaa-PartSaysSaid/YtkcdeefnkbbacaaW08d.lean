/- Parts: what is read. -/
import Derived.Test.YtkcdeefnkbbacaaW08b
set_option maxRecDepth 100000
set_option linter.unusedSimpArgs false
set_option linter.unusedVariables false
namespace Go.Proofs.Ytkcdeefnkbbacaa
open Go.RowKit
set_option maxHeartbeats 4000000
theorem unall_x {s x : By} (h : x = s.drop 20) : Good Try.prog 24 [.str x] (.tuple [.sl .sh 4 ((un (s.drop 20)).1.map it), .int .i64 (un (s.drop 20)).2]) := by subst h; exact unall_good _
theorem unall_n {s x : By} (h : x = s.drop 20) (hn : (un (s.drop 20)).1 = []) : Good Try.prog 24 [.str x] (.tuple [.sl .sh 4 [], .int .i64 (un (s.drop 20)).2]) := by have := unall_x h; rw [hn] at this; exact this
theorem runall_x {s x : By} (h : x = s.drop 20) : Good Try.prog 102 [.str x] (.tuple [.sl .sh 4 ((un (s.drop 20)).1.map it), .int .i64 (un (s.drop 20)).2]) := by subst h; exact runall_good _
theorem eread_x {s x : By} (h : x = (s.drop 1).take 19) (hl : ¬ s.length < 20) : Good Try.prog 83 [.str x] (.tuple [eP (q4 (s.drop 1) 0) (q4 (s.drop 1) 1) (q4 (s.drop 1) 2) (q4 (s.drop 1) 3), .str (((s.drop 1).take 19).drop 16), .int .i64 0]) := by
  subst h
  refine (eread_ok _ (by simp; omega)).eq ?_
  rw [q4_take (by omega), q4_take (by omega), q4_take (by omega), q4_take (by omega)]
theorem seq_x {s : By} : (((s.drop 1).take 19).drop 16).take 2 = (s.drop 17).take 2 := by
  rw [List.drop_take, List.drop_drop, List.take_take]
  rfl
theorem ptake_x {s : By} (hl : ¬ s.length < 20) : Good Try.prog 82 [.str (((s.drop 1).take 19).drop 16), .int .i64 2] (.tuple [.int .u64 (tS s), .str ((((s.drop 1).take 19).drop 16).drop 2), .int .i64 0]) := by
  have h := take_ok' (((s.drop 1).take 19).drop 16) 2 2 rfl (by omega) (by simp; omega)
  rw [seq_x] at h
  exact h
theorem tS_w (s : By) : IntKind.i64.wrap (tS s) = tS s := by
  have h := valB_lt 0 ((s.drop 17).take 2)
  have h1 : ((s.drop 17).take 2).length ≤ 2 := by simp; omega
  have h2 : 256 ^ ((s.drop 17).take 2).length ≤ 256 ^ 2 := Nat.pow_le_pow_right (by omega) h1
  have h3 : (256 : Nat) ^ 2 = 65536 := by decide
  unfold tS
  rw [wrap_i64]
  omega
theorem tread_good (s : By) (hm : s.length ≤ 1000000) : Good Try.prog 30 [.str s] (.tuple [eQ (trd s).1, .int .i64 (trd s).2]) := by
  by_cases h1 : s.length < 20
  · rw [trd_short h1]
    apply good_at ak30 rfl rfl rfl
    conv => whnf
    refine And.intro (fun hc0 => ?_) (fun hc0 => ?_)
    · replace hc0 := of_decide_eq_true hc0
      conv => whnf
      refine AV.of_eqv ?_
      conv => whnf
      refine And.intro (by decide) ?_
      conv => whnf
      refine And.intro (by decide) ?_
      conv => whnf
      refine And.intro (by decide) ?_
      conv => whnf
      refine And.intro (by decide) ?_
      conv => whnf
      refine And.intro (by decide) ?_
      conv => whnf
      refine And.intro (by decide) ?_
      conv => whnf
      refine And.intro (by decide) ?_
      conv => whnf
      refine And.intro (by decide) ?_
      conv => whnf
      refine And.intro (by with_reducible rfl) ?_
      exact True.intro
    · replace hc0 := of_decide_eq_false hc0
      (exfalso; omega)
  · by_cases h2 : 60 < s.length
    · rw [trd_long h1 h2]
      apply good_at ak30 rfl rfl rfl
      conv => whnf
      refine And.intro (fun hc0 => ?_) (fun hc0 => ?_)
      · replace hc0 := of_decide_eq_true hc0
        (exfalso; omega)
      · replace hc0 := of_decide_eq_false hc0
        conv => whnf
        refine And.intro (fun hc1 => ?_) (fun hc1 => ?_)
        · replace hc1 := of_decide_eq_true hc1
          conv => whnf
          refine AV.of_eqv ?_
          conv => whnf
          refine And.intro (by decide) ?_
          conv => whnf
          refine And.intro (by decide) ?_
          conv => whnf
          refine And.intro (by decide) ?_
          conv => whnf
          refine And.intro (by decide) ?_
          conv => whnf
          refine And.intro (by decide) ?_
          conv => whnf
          refine And.intro (by decide) ?_
          conv => whnf
          refine And.intro (by decide) ?_
          conv => whnf
          refine And.intro (by decide) ?_
          conv => whnf
          refine And.intro (by with_reducible rfl) ?_
          exact True.intro
        · replace hc1 := of_decide_eq_false hc1
          (exfalso; simp only [wrap_i64] at *; omega)
    · obtain ⟨c0, k0⟩ : ∃ c, s[0]? = some c := ⟨_, List.getElem?_eq_getElem (by omega)⟩
      obtain ⟨c19, k19⟩ : ∃ c, s[19]? = some c := ⟨_, List.getElem?_eq_getElem (by omega)⟩
      have e0 : tF s = (c0.toNat : Int) := val_one (k := 0) k0
      have e19 : tM s = (c19.toNat : Int) := val_one k19
      have b0 : c0.toNat < 256 := c0.toNat_lt
      have b19 : c19.toNat < 256 := c19.toNat_lt
      have w0 : IntKind.i64.wrap (c0.toNat : Int) = tF s := by rw [wrap_i64]; omega
      have wS := tS_w s
      have x20 : List.drop (Int.toNat 20) (List.take (↑(List.length s) : Int).toNat s) = s.drop 20 := by simp
      have x1 : List.drop (Int.toNat 1) (List.take (Int.toNat 20) s) = (s.drop 1).take 19 := by rw [List.drop_take]; rfl
      have hul := un_len (s.drop 20)
      by_cases h3 : (un (s.drop 20)).2 = 0
      · by_cases h4 : 1 < tM s ∨ 16 ≤ tF s
        · rw [trd_bad h1 h2 h3 h4]
          apply good_at ak30 rfl rfl rfl
          conv => whnf
          refine And.intro (fun hc0 => ?_) (fun hc0 => ?_)
          · replace hc0 := of_decide_eq_true hc0
            (exfalso; omega)
          · replace hc0 := of_decide_eq_false hc0
            conv => whnf
            refine And.intro (fun hc1 => ?_) (fun hc1 => ?_)
            · replace hc1 := of_decide_eq_true hc1
              (exfalso; simp only [wrap_i64] at *; omega)
            · replace hc1 := of_decide_eq_false hc1
              conv => whnf
              refine And.intro (by decide) ?_
              refine And.intro (by omega) ?_
              refine And.intro (by omega) ?_
              conv => whnf
              refine ⟨_, (unall_x (s := s)) ?_, ?_⟩
              · assumption
              · conv => whnf
                refine And.intro (fun hc2 => ?_) (fun hc2 => ?_)
                · replace hc2 := of_decide_eq_false (Bool.not_eq_true' _ |>.mp hc2)
                  contradiction
                · replace hc2 := of_decide_eq_true (Bool.not_eq_false' _ |>.mp hc2)
                  conv => whnf
                  refine And.intro (by exact rfl) ?_
                  conv => whnf
                  refine And.intro (by decide) ?_
                  refine ⟨_, k0, ?_⟩
                  conv => whnf
                  refine And.intro (by decide) ?_
                  refine ⟨_, k19, ?_⟩
                  conv => whnf
                  refine And.intro (fun hc5 => ?_) (fun hc5 => ?_)
                  · replace hc5 := of_decide_eq_false hc5
                    conv => whnf
                    refine br_l rfl rfl ?_
                    conv => whnf
                    refine ⟨_, right3_good _, ?_⟩
                    conv => whnf
                    refine br_l rfl rfl ?_
                    conv => whnf
                    refine br_r rfl rfl ?_
                    conv => whnf
                    refine And.intro (fun hc6 => ?_) (fun hc6 => ?_)
                    · replace hc6 := of_decide_eq_false (Bool.not_eq_true' _ |>.mp hc6)
                      conv => whnf
                      refine AV.of_eqv ?_
                      conv => whnf
                      refine And.intro (by decide) ?_
                      conv => whnf
                      refine And.intro (by decide) ?_
                      conv => whnf
                      refine And.intro (by decide) ?_
                      conv => whnf
                      refine And.intro (by decide) ?_
                      conv => whnf
                      refine And.intro (by decide) ?_
                      conv => whnf
                      refine And.intro (by decide) ?_
                      conv => whnf
                      refine And.intro (by decide) ?_
                      conv => whnf
                      refine And.intro (by decide) ?_
                      conv => whnf
                      refine And.intro (by with_reducible rfl) ?_
                      exact True.intro
                    · replace hc6 := of_decide_eq_true (Bool.not_eq_false' _ |>.mp hc6)
                      (exfalso; omega)
                  · replace hc5 := of_decide_eq_true hc5
                    conv => whnf
                    refine br_r rfl rfl ?_
                    conv => whnf
                    refine br_r rfl rfl ?_
                    conv => whnf
                    refine br_l rfl rfl ?_
                    conv => whnf
                    refine br_l rfl rfl ?_
                    conv => whnf
                    refine AV.of_eqv ?_
                    conv => whnf
                    refine And.intro (by decide) ?_
                    conv => whnf
                    refine And.intro (by decide) ?_
                    conv => whnf
                    refine And.intro (by decide) ?_
                    conv => whnf
                    refine And.intro (by decide) ?_
                    conv => whnf
                    refine And.intro (by decide) ?_
                    conv => whnf
                    refine And.intro (by decide) ?_
                    conv => whnf
                    refine And.intro (by decide) ?_
                    conv => whnf
                    refine And.intro (by decide) ?_
                    conv => whnf
                    refine And.intro (by with_reducible rfl) ?_
                    exact True.intro
        · rw [trd_ok h1 h2 h3 h4]
          by_cases h5 : (un (s.drop 20)).1 = []
          · unfold tq
            rw [h5]
            apply good_at ak30 rfl rfl rfl
            conv => whnf
            refine And.intro (fun hc0 => ?_) (fun hc0 => ?_)
            · replace hc0 := of_decide_eq_true hc0
              (exfalso; omega)
            · replace hc0 := of_decide_eq_false hc0
              conv => whnf
              refine And.intro (fun hc1 => ?_) (fun hc1 => ?_)
              · replace hc1 := of_decide_eq_true hc1
                (exfalso; simp only [wrap_i64] at *; omega)
              · replace hc1 := of_decide_eq_false hc1
                conv => whnf
                refine And.intro (by decide) ?_
                refine And.intro (by omega) ?_
                refine And.intro (by omega) ?_
                conv => whnf
                refine ⟨_, (unall_n (s := s)) ?_ ?_, ?_⟩
                · assumption
                · assumption
                · conv => whnf
                  refine And.intro (fun hc2 => ?_) (fun hc2 => ?_)
                  · replace hc2 := of_decide_eq_false (Bool.not_eq_true' _ |>.mp hc2)
                    contradiction
                  · replace hc2 := of_decide_eq_true (Bool.not_eq_false' _ |>.mp hc2)
                    conv => whnf
                    refine And.intro (by exact rfl) ?_
                    conv => whnf
                    refine And.intro (by decide) ?_
                    refine ⟨_, k0, ?_⟩
                    conv => whnf
                    refine And.intro (by decide) ?_
                    refine ⟨_, k19, ?_⟩
                    conv => whnf
                    refine And.intro (fun hc5 => ?_) (fun hc5 => ?_)
                    · replace hc5 := of_decide_eq_false hc5
                      conv => whnf
                      refine br_l rfl rfl ?_
                      conv => whnf
                      refine ⟨_, right3_good _, ?_⟩
                      conv => whnf
                      refine br_l rfl rfl ?_
                      conv => whnf
                      refine br_r rfl rfl ?_
                      conv => whnf
                      refine And.intro (fun hc6 => ?_) (fun hc6 => ?_)
                      · replace hc6 := of_decide_eq_false (Bool.not_eq_true' _ |>.mp hc6)
                        (exfalso; omega)
                      · replace hc6 := of_decide_eq_true (Bool.not_eq_false' _ |>.mp hc6)
                        conv => whnf
                        refine And.intro (by decide) ?_
                        refine And.intro (by decide) ?_
                        refine And.intro (by omega) ?_
                        conv => whnf
                        refine ⟨_, (eread_x (s := s)) ?_ ?_, ?_⟩
                        · assumption
                        · assumption
                        · conv => whnf
                          refine br_r rfl rfl ?_
                          conv => whnf
                          refine ⟨_, (ptake_x (s := s)) ?_, ?_⟩
                          · assumption
                          · conv => whnf
                            refine br_r rfl rfl ?_
                            conv => whnf
                            refine br_r rfl rfl ?_
                            conv => whnf
                            refine AV.of_eqv ?_
                            conv => whnf
                            refine And.intro (by assumption) ?_
                            conv => whnf
                            refine And.intro (by with_reducible rfl) ?_
                            conv => whnf
                            refine And.intro (by with_reducible rfl) ?_
                            conv => whnf
                            refine And.intro (by with_reducible rfl) ?_
                            conv => whnf
                            refine And.intro (by with_reducible rfl) ?_
                            conv => whnf
                            refine And.intro (by assumption) ?_
                            conv => whnf
                            refine And.intro (by exact decide_eq_decide.2 (by omega)) ?_
                            conv => whnf
                            refine And.intro (by (simp; done)) ?_
                            conv => whnf
                            refine And.intro (by with_reducible rfl) ?_
                            exact True.intro
                    · replace hc5 := of_decide_eq_true hc5
                      (exfalso; omega)
          · have h6 : 0 < (un (s.drop 20)).1.length := List.length_pos_iff.2 h5
            unfold tq
            apply good_at ak30 rfl rfl rfl
            conv => whnf
            refine And.intro (fun hc0 => ?_) (fun hc0 => ?_)
            · replace hc0 := of_decide_eq_true hc0
              (exfalso; omega)
            · replace hc0 := of_decide_eq_false hc0
              conv => whnf
              refine And.intro (fun hc1 => ?_) (fun hc1 => ?_)
              · replace hc1 := of_decide_eq_true hc1
                (exfalso; simp only [wrap_i64] at *; omega)
              · replace hc1 := of_decide_eq_false hc1
                conv => whnf
                refine And.intro (by decide) ?_
                refine And.intro (by omega) ?_
                refine And.intro (by omega) ?_
                conv => whnf
                refine ⟨_, (unall_x (s := s)) ?_, ?_⟩
                · assumption
                · conv => whnf
                  refine And.intro (fun hc2 => ?_) (fun hc2 => ?_)
                  · replace hc2 := of_decide_eq_false (Bool.not_eq_true' _ |>.mp hc2)
                    contradiction
                  · replace hc2 := of_decide_eq_true (Bool.not_eq_false' _ |>.mp hc2)
                    conv => whnf
                    refine And.intro (by exact rfl) ?_
                    conv => whnf
                    refine And.intro (by decide) ?_
                    refine ⟨_, k0, ?_⟩
                    conv => whnf
                    refine And.intro (by decide) ?_
                    refine ⟨_, k19, ?_⟩
                    conv => whnf
                    refine And.intro (fun hc5 => ?_) (fun hc5 => ?_)
                    · replace hc5 := of_decide_eq_false hc5
                      conv => whnf
                      refine br_l rfl rfl ?_
                      conv => whnf
                      refine ⟨_, right3_good _, ?_⟩
                      conv => whnf
                      refine br_l rfl rfl ?_
                      conv => whnf
                      refine br_r rfl rfl ?_
                      conv => whnf
                      refine And.intro (fun hc6 => ?_) (fun hc6 => ?_)
                      · replace hc6 := of_decide_eq_false (Bool.not_eq_true' _ |>.mp hc6)
                        (exfalso; omega)
                      · replace hc6 := of_decide_eq_true (Bool.not_eq_false' _ |>.mp hc6)
                        conv => whnf
                        refine And.intro (by decide) ?_
                        refine And.intro (by decide) ?_
                        refine And.intro (by omega) ?_
                        conv => whnf
                        refine ⟨_, (eread_x (s := s)) ?_ ?_, ?_⟩
                        · assumption
                        · assumption
                        · conv => whnf
                          refine br_r rfl rfl ?_
                          conv => whnf
                          refine ⟨_, (ptake_x (s := s)) ?_, ?_⟩
                          · assumption
                          · conv => whnf
                            refine br_r rfl rfl ?_
                            conv => whnf
                            refine And.intro (fun hc7 => ?_) (fun hc7 => ?_)
                            · replace hc7 := of_decide_eq_true hc7
                              conv => whnf
                              refine And.intro (by omega) ?_
                              refine And.intro (by (simp only [map_rows]; omega)) ?_
                              conv => whnf
                              refine AV.of_eqv ?_
                              conv => whnf
                              refine And.intro (by assumption) ?_
                              conv => whnf
                              refine And.intro (by with_reducible rfl) ?_
                              conv => whnf
                              refine And.intro (by with_reducible rfl) ?_
                              conv => whnf
                              refine And.intro (by with_reducible rfl) ?_
                              conv => whnf
                              refine And.intro (by with_reducible rfl) ?_
                              conv => whnf
                              refine And.intro (by assumption) ?_
                              conv => whnf
                              refine And.intro (by exact decide_eq_decide.2 (by omega)) ?_
                              conv => whnf
                              refine And.intro (by with_reducible rfl) ?_
                              conv => whnf
                              refine And.intro (by with_reducible rfl) ?_
                              exact True.intro
                            · replace hc7 := of_decide_eq_false hc7
                              (exfalso; simp only [map_rows] at *; omega)
                    · replace hc5 := of_decide_eq_true hc5
                      (exfalso; omega)
      · rw [trd_un h1 h2 h3]
        apply good_at ak30 rfl rfl rfl
        conv => whnf
        refine And.intro (fun hc0 => ?_) (fun hc0 => ?_)
        · replace hc0 := of_decide_eq_true hc0
          (exfalso; omega)
        · replace hc0 := of_decide_eq_false hc0
          conv => whnf
          refine And.intro (fun hc1 => ?_) (fun hc1 => ?_)
          · replace hc1 := of_decide_eq_true hc1
            (exfalso; simp only [wrap_i64] at *; omega)
          · replace hc1 := of_decide_eq_false hc1
            conv => whnf
            refine And.intro (by decide) ?_
            refine And.intro (by omega) ?_
            refine And.intro (by omega) ?_
            conv => whnf
            refine ⟨_, (unall_x (s := s)) ?_, ?_⟩
            · assumption
            · conv => whnf
              refine And.intro (fun hc2 => ?_) (fun hc2 => ?_)
              · replace hc2 := of_decide_eq_false (Bool.not_eq_true' _ |>.mp hc2)
                conv => whnf
                refine AV.of_eqv ?_
                conv => whnf
                refine And.intro (by exact rfl) ?_
                conv => whnf
                refine And.intro (by exact rfl) ?_
                conv => whnf
                refine And.intro (by exact rfl) ?_
                conv => whnf
                refine And.intro (by exact rfl) ?_
                conv => whnf
                refine And.intro (by exact rfl) ?_
                conv => whnf
                refine And.intro (by exact rfl) ?_
                conv => whnf
                refine And.intro (by exact rfl) ?_
                conv => whnf
                refine And.intro (by exact rfl) ?_
                conv => whnf
                refine And.intro (by with_reducible rfl) ?_
                exact True.intro
              · replace hc2 := of_decide_eq_true (Bool.not_eq_false' _ |>.mp hc2)
                contradiction
theorem rtread_good (s : By) : Good Try.prog 31 [.str s] (.tuple [eQ (trd s).1, .int .i64 (trd s).2]) := by
  by_cases h1 : s.length < 20
  · rw [trd_short h1]
    apply good_at ak31 rfl rfl rfl
    conv => whnf
    refine And.intro (fun hc0 => ?_) (fun hc0 => ?_)
    · replace hc0 := of_decide_eq_true hc0
      conv => whnf
      refine AV.of_eqv ?_
      conv => whnf
      refine And.intro (by decide) ?_
      conv => whnf
      refine And.intro (by decide) ?_
      conv => whnf
      refine And.intro (by decide) ?_
      conv => whnf
      refine And.intro (by decide) ?_
      conv => whnf
      refine And.intro (by decide) ?_
      conv => whnf
      refine And.intro (by decide) ?_
      conv => whnf
      refine And.intro (by decide) ?_
      conv => whnf
      refine And.intro (by decide) ?_
      conv => whnf
      refine And.intro (by with_reducible rfl) ?_
      exact True.intro
    · replace hc0 := of_decide_eq_false hc0
      (exfalso; omega)
  · have b0 : 0 ≤ tF s ∧ tF s ≤ 255 := by have := val1_b s; unfold tF; omega
    have b19 : 0 ≤ tM s ∧ tM s ≤ 255 := by have := val1_b (s.drop 19); unfold tM; omega
    have w0 : IntKind.i64.wrap (tF s) = tF s := by rw [wrap_i64]; omega
    have wS := tS_w s
    have x20 : (((s.drop 1).drop 16).drop 2).drop 1 = s.drop 20 := by simp only [List.drop_drop]
    have t0 : Good Try.prog 85 [.str s, .int .i64 1] (.tuple [.int .u64 (tF s), .str (s.drop 1), .int .i64 0]) := rtake_ok s 1 1 rfl (by omega) (by omega)
    have t1 : Good Try.prog 86 [.str (s.drop 1)] (.tuple [eP (q4 (s.drop 1) 0) (q4 (s.drop 1) 1) (q4 (s.drop 1) 2) (q4 (s.drop 1) 3), .str ((s.drop 1).drop 16), .int .i64 0]) := reread_ok _ (by simp; omega)
    have t2 : Good Try.prog 85 [.str ((s.drop 1).drop 16), .int .i64 2] (.tuple [.int .u64 (tS s), .str (((s.drop 1).drop 16).drop 2), .int .i64 0]) := by
      have h := rtake_ok ((s.drop 1).drop 16) 2 2 rfl (by omega) (by simp; omega)
      rw [show ((s.drop 1).drop 16) = s.drop 17 by simp only [List.drop_drop]] at h ⊢
      exact h
    have t3 : Good Try.prog 85 [.str (((s.drop 1).drop 16).drop 2), .int .i64 1] (.tuple [.int .u64 (tM s), .str ((((s.drop 1).drop 16).drop 2).drop 1), .int .i64 0]) := by
      have h := rtake_ok (((s.drop 1).drop 16).drop 2) 1 1 rfl (by omega) (by simp; omega)
      rw [show (((s.drop 1).drop 16).drop 2) = s.drop 19 by simp only [List.drop_drop]] at h ⊢
      exact h
    have hln : ((((s.drop 1).drop 16).drop 2).drop 1).length = s.length - 20 := by rw [x20]; simp
    by_cases h2 : 60 < s.length
    · rw [trd_long h1 h2]
      apply good_at ak31 rfl rfl rfl
      conv => whnf
      refine And.intro (fun hc0 => ?_) (fun hc0 => ?_)
      · replace hc0 := of_decide_eq_true hc0
        (exfalso; omega)
      · replace hc0 := of_decide_eq_false hc0
        conv => whnf
        refine ⟨_, t0, ?_⟩
        conv => whnf
        refine ⟨_, t1, ?_⟩
        conv => whnf
        refine ⟨_, t2, ?_⟩
        conv => whnf
        refine ⟨_, t3, ?_⟩
        conv => whnf
        refine And.intro (fun hc1 => ?_) (fun hc1 => ?_)
        · replace hc1 := of_decide_eq_true hc1
          conv => whnf
          refine AV.of_eqv ?_
          conv => whnf
          refine And.intro (by decide) ?_
          conv => whnf
          refine And.intro (by decide) ?_
          conv => whnf
          refine And.intro (by decide) ?_
          conv => whnf
          refine And.intro (by decide) ?_
          conv => whnf
          refine And.intro (by decide) ?_
          conv => whnf
          refine And.intro (by decide) ?_
          conv => whnf
          refine And.intro (by decide) ?_
          conv => whnf
          refine And.intro (by decide) ?_
          conv => whnf
          refine And.intro (by with_reducible rfl) ?_
          exact True.intro
        · replace hc1 := of_decide_eq_false hc1
          (exfalso; omega)
    · have hul := un_len (s.drop 20)
      by_cases h3 : (un (s.drop 20)).2 = 0
      · by_cases h4 : 1 < tM s ∨ 16 ≤ tF s
        · rw [trd_bad h1 h2 h3 h4]
          apply good_at ak31 rfl rfl rfl
          conv => whnf
          refine And.intro (fun hc0 => ?_) (fun hc0 => ?_)
          · replace hc0 := of_decide_eq_true hc0
            (exfalso; omega)
          · replace hc0 := of_decide_eq_false hc0
            conv => whnf
            refine ⟨_, t0, ?_⟩
            conv => whnf
            refine ⟨_, t1, ?_⟩
            conv => whnf
            refine ⟨_, t2, ?_⟩
            conv => whnf
            refine ⟨_, t3, ?_⟩
            conv => whnf
            refine And.intro (fun hc1 => ?_) (fun hc1 => ?_)
            · replace hc1 := of_decide_eq_true hc1
              (exfalso; omega)
            · replace hc1 := of_decide_eq_false hc1
              conv => whnf
              refine ⟨_, (runall_x (s := s)) ?_, ?_⟩
              · assumption
              · conv => whnf
                refine And.intro (fun hc2 => ?_) (fun hc2 => ?_)
                · replace hc2 := of_decide_eq_false (Bool.not_eq_true' _ |>.mp hc2)
                  contradiction
                · replace hc2 := of_decide_eq_true (Bool.not_eq_false' _ |>.mp hc2)
                  conv => whnf
                  refine And.intro (fun hc3 => ?_) (fun hc3 => ?_)
                  · replace hc3 := of_decide_eq_false hc3
                    conv => whnf
                    refine br_l rfl rfl ?_
                    conv => whnf
                    refine br_l rfl rfl ?_
                    conv => whnf
                    refine ⟨_, rright3_good _, ?_⟩
                    conv => whnf
                    refine br_l rfl rfl ?_
                    conv => whnf
                    refine br_r rfl rfl ?_
                    conv => whnf
                    refine And.intro (fun hc4 => ?_) (fun hc4 => ?_)
                    · replace hc4 := of_decide_eq_false (Bool.not_eq_true' _ |>.mp hc4)
                      conv => whnf
                      refine AV.of_eqv ?_
                      conv => whnf
                      refine And.intro (by decide) ?_
                      conv => whnf
                      refine And.intro (by decide) ?_
                      conv => whnf
                      refine And.intro (by decide) ?_
                      conv => whnf
                      refine And.intro (by decide) ?_
                      conv => whnf
                      refine And.intro (by decide) ?_
                      conv => whnf
                      refine And.intro (by decide) ?_
                      conv => whnf
                      refine And.intro (by decide) ?_
                      conv => whnf
                      refine And.intro (by decide) ?_
                      conv => whnf
                      refine And.intro (by with_reducible rfl) ?_
                      exact True.intro
                    · replace hc4 := of_decide_eq_true (Bool.not_eq_false' _ |>.mp hc4)
                      (exfalso; omega)
                  · replace hc3 := of_decide_eq_true hc3
                    conv => whnf
                    refine br_r rfl rfl ?_
                    conv => whnf
                    refine br_r rfl rfl ?_
                    conv => whnf
                    refine br_r rfl rfl ?_
                    conv => whnf
                    refine br_l rfl rfl ?_
                    conv => whnf
                    refine br_l rfl rfl ?_
                    conv => whnf
                    refine AV.of_eqv ?_
                    conv => whnf
                    refine And.intro (by decide) ?_
                    conv => whnf
                    refine And.intro (by decide) ?_
                    conv => whnf
                    refine And.intro (by decide) ?_
                    conv => whnf
                    refine And.intro (by decide) ?_
                    conv => whnf
                    refine And.intro (by decide) ?_
                    conv => whnf
                    refine And.intro (by decide) ?_
                    conv => whnf
                    refine And.intro (by decide) ?_
                    conv => whnf
                    refine And.intro (by decide) ?_
                    conv => whnf
                    refine And.intro (by with_reducible rfl) ?_
                    exact True.intro
        · rw [trd_ok h1 h2 h3 h4]
          unfold tq
          apply good_at ak31 rfl rfl rfl
          conv => whnf
          refine And.intro (fun hc0 => ?_) (fun hc0 => ?_)
          · replace hc0 := of_decide_eq_true hc0
            (exfalso; omega)
          · replace hc0 := of_decide_eq_false hc0
            conv => whnf
            refine ⟨_, t0, ?_⟩
            conv => whnf
            refine ⟨_, t1, ?_⟩
            conv => whnf
            refine ⟨_, t2, ?_⟩
            conv => whnf
            refine ⟨_, t3, ?_⟩
            conv => whnf
            refine And.intro (fun hc1 => ?_) (fun hc1 => ?_)
            · replace hc1 := of_decide_eq_true hc1
              (exfalso; omega)
            · replace hc1 := of_decide_eq_false hc1
              conv => whnf
              refine ⟨_, (runall_x (s := s)) ?_, ?_⟩
              · assumption
              · conv => whnf
                refine And.intro (fun hc2 => ?_) (fun hc2 => ?_)
                · replace hc2 := of_decide_eq_false (Bool.not_eq_true' _ |>.mp hc2)
                  contradiction
                · replace hc2 := of_decide_eq_true (Bool.not_eq_false' _ |>.mp hc2)
                  conv => whnf
                  refine And.intro (fun hc3 => ?_) (fun hc3 => ?_)
                  · replace hc3 := of_decide_eq_false hc3
                    conv => whnf
                    refine br_l rfl rfl ?_
                    conv => whnf
                    refine br_l rfl rfl ?_
                    conv => whnf
                    refine ⟨_, rright3_good _, ?_⟩
                    conv => whnf
                    refine br_l rfl rfl ?_
                    conv => whnf
                    refine br_r rfl rfl ?_
                    conv => whnf
                    refine And.intro (fun hc4 => ?_) (fun hc4 => ?_)
                    · replace hc4 := of_decide_eq_false (Bool.not_eq_true' _ |>.mp hc4)
                      (exfalso; omega)
                    · replace hc4 := of_decide_eq_true (Bool.not_eq_false' _ |>.mp hc4)
                      conv => whnf
                      refine AV.of_eqv ?_
                      conv => whnf
                      refine And.intro (by assumption) ?_
                      conv => whnf
                      refine And.intro (by with_reducible rfl) ?_
                      conv => whnf
                      refine And.intro (by with_reducible rfl) ?_
                      conv => whnf
                      refine And.intro (by with_reducible rfl) ?_
                      conv => whnf
                      refine And.intro (by with_reducible rfl) ?_
                      conv => whnf
                      refine And.intro (by assumption) ?_
                      conv => whnf
                      refine And.intro (by with_reducible rfl) ?_
                      conv => whnf
                      refine And.intro (by with_reducible rfl) ?_
                      conv => whnf
                      refine And.intro (by with_reducible rfl) ?_
                      exact True.intro
                  · replace hc3 := of_decide_eq_true hc3
                    (exfalso; omega)
      · rw [trd_un h1 h2 h3]
        apply good_at ak31 rfl rfl rfl
        conv => whnf
        refine And.intro (fun hc0 => ?_) (fun hc0 => ?_)
        · replace hc0 := of_decide_eq_true hc0
          (exfalso; omega)
        · replace hc0 := of_decide_eq_false hc0
          conv => whnf
          refine ⟨_, t0, ?_⟩
          conv => whnf
          refine ⟨_, t1, ?_⟩
          conv => whnf
          refine ⟨_, t2, ?_⟩
          conv => whnf
          refine ⟨_, t3, ?_⟩
          conv => whnf
          refine And.intro (fun hc1 => ?_) (fun hc1 => ?_)
          · replace hc1 := of_decide_eq_true hc1
            (exfalso; omega)
          · replace hc1 := of_decide_eq_false hc1
            conv => whnf
            refine ⟨_, (runall_x (s := s)) ?_, ?_⟩
            · assumption
            · conv => whnf
              refine And.intro (fun hc2 => ?_) (fun hc2 => ?_)
              · replace hc2 := of_decide_eq_false (Bool.not_eq_true' _ |>.mp hc2)
                conv => whnf
                refine AV.of_eqv ?_
                conv => whnf
                refine And.intro (by exact rfl) ?_
                conv => whnf
                refine And.intro (by exact rfl) ?_
                conv => whnf
                refine And.intro (by exact rfl) ?_
                conv => whnf
                refine And.intro (by exact rfl) ?_
                conv => whnf
                refine And.intro (by exact rfl) ?_
                conv => whnf
                refine And.intro (by exact rfl) ?_
                conv => whnf
                refine And.intro (by exact rfl) ?_
                conv => whnf
                refine And.intro (by exact rfl) ?_
                conv => whnf
                refine And.intro (by with_reducible rfl) ?_
                exact True.intro
              · replace hc2 := of_decide_eq_true (Bool.not_eq_false' _ |>.mp hc2)
                contradiction
end Go.Proofs.Ytkcdeefnkbbacaa

/- The law SplitBack: the law itself. -/
import Derived.Test.YtkcdeefnkbbacaaW18b
set_option maxRecDepth 100000
set_option linter.unusedSimpArgs false
set_option linter.unusedVariables false
namespace Go.Proofs.Ytkcdeefnkbbacaa
open Go.RowKit
set_option maxHeartbeats 4000000
theorem gather_m (g : List It) (f a b c d s : Int) (m : Bool) (l : List It) (hm : m = true) (h : g.length + l.length ≤ 48) : Good Try.prog 56 [.sl .sh 4 (g.map it), eT f a b c d s m l] (.tuple [.sl .own 4 ((g ++ l).map it), .sl .own 4 [], .bool false, .int .i64 0]) := by
  subst hm; exact gather_more g f a b c d s l h
theorem gather_l (g : List It) (f a b c d s : Int) (m : Bool) (l : List It) (hm : m = false) (h : g.length + l.length ≤ 48) : Good Try.prog 56 [.sl .sh 4 (g.map it), eT f a b c d s m l] (.tuple [.sl .own 4 [], .sl .own 4 ((g ++ l).map it), .bool true, .int .i64 0]) := by
  subst hm; exact gather_last g f a b c d s l h
theorem many7 : manyI 7 = [(0, 0, 4294967295, -1), (1, 0, 4294967295, -1), (2, 0, 4294967295, -1), (3, 0, 4294967295, -1), (4, 0, 4294967295, -1), (5, 0, 4294967295, -1), (6, 0, 4294967295, -1)] := by decide
theorem many_d (n : Nat) : ∀ x ∈ manyI n, u32b x.2.2.1 := by
  intro x hx
  obtain ⟨i, _, rfl⟩ := List.mem_map.1 hx
  unfold u32b; simp
def A7 : List It := [(0, 0, 4294967295, -1), (1, 0, 4294967295, -1), (2, 0, 4294967295, -1), (3, 0, 4294967295, -1), (4, 0, 4294967295, -1), (5, 0, 4294967295, -1)]
def B7 : List It := [(6, 0, 4294967295, -1)]
theorem cut7 : cutR (manyI 7) = ([A7, B7], 0) := by decide
theorem cut49 : cutR (manyI 49) = ([], 4) := cutR_long (by rw [manyI_len]; omega)
theorem cut0 : cutR [] = ([[]], 0) := by decide
theorem c18_7 : Good Try.prog 55 [.sl .sh 4 ((manyI 7).map it)] (.tuple [.sl .own 1 [sit A7, sit B7], .int .i64 0]) :=
  (cut18_good (manyI 7) (by rw [manyI_len]; omega) (many_d 7)).eq (by rw [cut7]; rfl)
theorem c18_49 : Good Try.prog 55 [.sl .sh 4 ((manyI 49).map it)] (.tuple [.sl .own 1 [], .int .i64 4]) :=
  (cut18_good (manyI 49) (by rw [manyI_len]; omega) (many_d 49)).eq (by rw [cut49]; rfl)
theorem c18_0 : Good Try.prog 55 [.sl .sh 4 []] (.tuple [.sl .own 1 [[.sl .sh 4 []]], .int .i64 0]) :=
  (cut18_good [] (by simp) (by simp)).eq (by rw [cut0]; rfl)
theorem g18_1 : Good Try.prog 56 [.sl .sh 4 [], .agg [.int .i64 0, .int .u32 0, .int .u32 0, .int .u32 0, .int .u32 0, .int .i64 0, .bool true, .sl .sh 4 (A7.map it)]] (.tuple [.sl .own 4 (A7.map it), .sl .own 4 [], .bool false, .int .i64 0]) :=
  (gather_more [] 0 0 0 0 0 0 A7 (by decide)).eq rfl
theorem g18_2 : Good Try.prog 56 [.sl .sh 4 (A7.map it), .agg [.int .i64 0, .int .u32 0, .int .u32 0, .int .u32 0, .int .u32 0, .int .i64 0, .bool false, .sl .sh 4 (B7.map it)]] (.tuple [.sl .own 4 [], .sl .own 4 ((manyI 7).map it), .bool true, .int .i64 0]) :=
  (gather_last A7 0 0 0 0 0 0 B7 (by decide)).eq (by rw [many7]; rfl)
theorem g18_3 : Good Try.prog 56 [.sl .sh 4 ((manyI 48).map it), .agg [.int .i64 0, .int .u32 0, .int .u32 0, .int .u32 0, .int .u32 0, .int .i64 0, .bool false, .sl .sh 4 ((manyI 1).map it)]] (.tuple [.sl .own 4 [], .sl .own 4 [], .bool false, .int .i64 4]) :=
  gather_long (manyI 48) 0 0 0 0 0 0 false (manyI 1) (by rw [manyI_len]; omega) (by rw [manyI_len]; omega) (by rw [manyI_len, manyI_len]; omega)
theorem len18_7 : (((manyI 7).map it).length : Int) = 7 := by rw [map_rows, manyI_len]; rfl
theorem s18_7 : Good Try.prog 57 [.sl .sh 4 ((manyI 7).map it), .sl .sh 4 ((manyI 7).map it)] (.bool true) :=
  (same18_good (manyI 7) (manyI 7) (by rw [manyI_len]; omega) (by rw [manyI_len]; omega)).eq (by simp)
theorem awake18_good : Good Try.prog 54 [] (.bool true) := by
  apply good_at ak54 rfl rfl rfl
  conv => whnf
  refine ⟨_, (many18_good _ 7) ?_ ?_, ?_⟩
  · decide
  · decide
  · conv => whnf
    refine ⟨_, c18_7, ?_⟩
    conv => whnf
    refine ⟨_, (many18_good _ 49) ?_ ?_, ?_⟩
    · decide
    · decide
    · conv => whnf
      refine ⟨_, c18_49, ?_⟩
      conv => whnf
      refine ⟨_, c18_0, ?_⟩
      conv => whnf
      refine br_l rfl rfl ?_
      conv => whnf
      refine br_l rfl rfl ?_
      conv => whnf
      refine br_l rfl rfl ?_
      conv => whnf
      refine br_r rfl rfl ?_
      conv => whnf
      refine br_r rfl rfl ?_
      conv => whnf
      refine And.intro (by decide) ?_
      with_reducible refine ⟨_, rfl, ?_⟩
      conv => whnf
      refine ⟨_, g18_1, ?_⟩
      conv => whnf
      refine And.intro (by decide) ?_
      with_reducible refine ⟨_, rfl, ?_⟩
      conv => whnf
      refine ⟨_, g18_2, ?_⟩
      conv => whnf
      refine ⟨_, (many18_good _ 48) ?_ ?_, ?_⟩
      · decide
      · decide
      · conv => whnf
        refine ⟨_, (many18_good _ 1) ?_ ?_, ?_⟩
        · decide
        · decide
        · conv => whnf
          refine ⟨_, g18_3, ?_⟩
          conv => whnf
          refine br_l rfl rfl ?_
          conv => whnf
          refine br_l rfl rfl ?_
          conv => whnf
          refine br_l rfl rfl ?_
          conv => whnf
          refine br_l rfl rfl ?_
          conv => whnf
          refine br_l rfl rfl ?_
          conv => whnf
          refine br_l rfl rfl ?_
          conv => whnf
          refine br_l rfl rfl ?_
          conv => whnf
          refine br_l rfl rfl ?_
          conv => whnf
          refine And.intro (by decide) ?_
          with_reducible refine ⟨_, rfl, ?_⟩
          conv => whnf
          refine br_l rfl rfl ?_
          conv => whnf
          refine br_l rfl rfl ?_
          conv => whnf
          refine br_l rfl rfl ?_
          conv => whnf
          refine br_l rfl rfl ?_
          conv => whnf
          refine br_l rfl rfl ?_
          conv => whnf
          refine br_l rfl rfl ?_
          conv => whnf
          refine br_l rfl rfl ?_
          conv => whnf
          refine br_l rfl rfl ?_
          conv => whnf
          refine br_l rfl rfl ?_
          conv => whnf
          refine br_l rfl rfl ?_
          conv => whnf
          refine br_l rfl rfl ?_
          conv => whnf
          refine br_l rfl rfl ?_
          conv => whnf
          refine br_l rfl rfl ?_
          conv => whnf
          refine br_l rfl rfl ?_
          conv => whnf
          refine br_l rfl rfl ?_
          conv => whnf
          refine br_l rfl rfl ?_
          conv => whnf
          refine br_l rfl rfl ?_
          conv => whnf
          refine br_l rfl rfl ?_
          conv => whnf
          refine br_l rfl rfl ?_
          conv => whnf
          refine br_l rfl rfl ?_
          conv => whnf
          refine br_l rfl rfl ?_
          conv => whnf
          refine br_l rfl rfl ?_
          conv => whnf
          refine br_l rfl rfl ?_
          conv => whnf
          refine br_l rfl rfl ?_
          conv => whnf
          refine ⟨_, (many18_good _ 7) ?_ ?_, ?_⟩
          · decide
          · decide
          · conv => whnf
            refine br_l rfl rfl ?_
            conv => whnf
            refine ⟨_, s18_7, ?_⟩
            conv => whnf
            refine br_l rfl rfl ?_
            conv => whnf
            refine br_l rfl rfl ?_
            conv => whnf
            refine br_l rfl rfl ?_
            conv => whnf
            refine br_l rfl rfl ?_
            conv => whnf
            refine br_l rfl rfl ?_
            conv => whnf
            refine br_l rfl rfl ?_
            conv => whnf
            refine br_l rfl rfl ?_
            conv => whnf
            refine br_l rfl rfl ?_
            conv => whnf
            refine br_l rfl rfl ?_
            conv => whnf
            refine br_l rfl rfl ?_
            conv => whnf
            refine ⟨_, most_good, ?_⟩
            conv => whnf
            refine br_l rfl rfl ?_
            conv => whnf
            refine br_l rfl rfl ?_
            conv => whnf
            refine AV.of_eqv ?_
            conv => whnf
            refine And.intro (by decide) ?_
            exact True.intro
theorem okI_of_all : ∀ {l : List It} {i : Nat} {out : By}, (allR i l out).2 = 0 → ∀ x ∈ l, okI x
  | [], _, _, _, x, hx => by cases hx
  | y :: l, i, out, h, x, hx => by
    unfold allR at h
    split at h
    · rename_i hb
      split at h
      · cases h
      · rcases List.mem_cons.1 hx with rfl | hx
        · rcases ibR_e x with ⟨h, _⟩ | ⟨_, h, _⟩
          · exact h
          · rw [h] at hb; cases hb
        · exact okI_of_all h x hx
    · rename_i hb; exact absurd h hb
theorem all_of_okI : ∀ {l : List It} {i : Nat} {out : By}, (∀ x ∈ l, okI x) → i + l.length ≤ 48 → (allR i l out).2 = 0
  | [], _, _, _, _ => rfl
  | y :: l, i, out, h, hi => by
    unfold allR
    rw [if_pos (by rw [ibR_yes (h y (by simp))]), if_neg (by rw [List.length_cons] at hi; omega)]
    exact all_of_okI (fun x hx => h x (List.mem_cons_of_mem _ hx)) (by rw [List.length_cons] at hi; omega)
theorem pcs_flat : ∀ (n : Nat) (l : List It), l.length ≤ n → (pcs n l).flatten = l ∧ (∀ x ∈ pcs n l, x.length ≤ 6 ∧ ∀ y ∈ x, y ∈ l) ∧ (pcs n l).length ≤ n + 1
  | 0, l, h => by
    obtain rfl := List.eq_nil_of_length_eq_zero (Nat.le_zero.1 h)
    exact ⟨rfl, by intro x hx; rw [show pcs 0 [] = [[]] from rfl, List.mem_singleton] at hx; subst hx; simp, Nat.le_refl _⟩
  | n + 1, l, h => by
    by_cases h6 : 6 < l.length
    · have e : pcs (n + 1) l = l.take 6 :: pcs n (l.drop 6) := if_pos h6
      obtain ⟨h1, h2, h3⟩ := pcs_flat n (l.drop 6) (by rw [List.length_drop]; omega)
      rw [e]
      refine ⟨by rw [List.flatten_cons, h1, List.take_append_drop], fun x hx => ?_, by rw [List.length_cons]; omega⟩
      rcases List.mem_cons.1 hx with rfl | hx
      · exact ⟨by rw [List.length_take]; omega, fun y hy => List.mem_of_mem_take hy⟩
      · exact ⟨(h2 x hx).1, fun y hy => List.mem_of_mem_drop ((h2 x hx).2 y hy)⟩
    · rw [pcs_small h6]
      refine ⟨by simp, fun x hx => ?_, by simp⟩
      obtain rfl := List.mem_singleton.1 hx
      exact ⟨by omega, fun y hy => hy⟩
theorem flat_step {P : List (List It)} {l : List It} {i : Nat} {x : List It} (hP : P.flatten = l) (hx : P[i]? = some x) : (P.take i).flatten.length + x.length ≤ l.length ∧ (P.take (i + 1)).flatten = (P.take i).flatten ++ x := by
  have e : (P.take (i + 1)).flatten = (P.take i).flatten ++ x := by rw [take_at hx, List.flatten_append]; simp
  refine ⟨?_, e⟩
  have h2 : l = (P.take (i + 1)).flatten ++ (P.drop (i + 1)).flatten := by rw [← List.flatten_append, List.take_append_drop, hP]
  have h3 := congrArg List.length h2
  rw [e] at h3
  simp only [List.length_append] at h3
  omega
theorem flat_last {P : List (List It)} {l : List It} {i : Nat} {x : List It} (hP : P.flatten = l) (hx : P[i]? = some x) (hi : ¬ i + 1 < P.length) : (P.take i).flatten ++ x = l := by
  rw [← (flat_step hP hx).2, List.take_of_length_le (by omega), hP]
theorem nf_dec {p C : Prop} [Decidable p] (h : ¬ false = decide p) (hp : ¬ p) : C := absurd (decide_eq_false hp).symm h
theorem nt_dec {p C : Prop} [Decidable p] (h : ¬ true = decide p) (hp : p) : C := absurd (decide_eq_true hp).symm h
theorem splitBack_good (l : List It) (hd : ∀ x ∈ l, u32b x.2.2.1) : Good Try.prog 11 [.sl .sh 4 (l.map it)] (.bool true) := by
  by_cases hl : 100 < l.length
  · apply good_at ak11 rfl rfl rfl
    conv => whnf
    refine And.intro (fun hc0 => ?_) (fun hc0 => ?_)
    · replace hc0 := of_decide_eq_true hc0
      conv => whnf
      refine ⟨_, awake18_good, ?_⟩
      conv => whnf
      refine AV.of_eqv ?_
      conv => whnf
      refine And.intro (by with_reducible rfl) ?_
      exact True.intro
    · replace hc0 := of_decide_eq_false hc0
      (exfalso; simp only [map_rows] at *; omega)
  · by_cases hc : (cutR l).2 = 0
    · have h48 : ¬ 48 < l.length := fun h => by rw [cutR_long h] at hc; cases hc
      have ha : (all l).2 = 0 := Decidable.byContradiction fun h => by rw [cutR_bad h48 h] at hc; exact h hc
      have hcut := cutR_ok h48 ha
      obtain ⟨hf, hm, hn⟩ := pcs_flat l.length l (Nat.le_refl _)
      have hpos : 0 < (pcs l.length l).length := by
        cases hq : pcs l.length l with
        | nil => rw [hq] at hf; simp at hf; subst hf; simp [pcs] at hq
        | cons a r => simp
      have hg := cut18_good l (by omega) hd
      rw [hcut] at hg
      have hok : ∀ x ∈ pcs l.length l, okT 0 0 x ∧ ∀ y ∈ x, u32b y.2.2.1 := fun x hx => by
        have h1 := hm x hx
        have h2 := all_len x
        exact ⟨⟨⟨all_of_okI (fun y hy => okI_of_all ha y (h1.2 y hy)) (by omega), by omega⟩, by omega, by omega, by omega, by omega⟩, fun y hy => hd y (h1.2 y hy)⟩
      apply good_at ak11 rfl rfl rfl
      conv => whnf
      refine And.intro (fun hc0 => ?_) (fun hc0 => ?_)
      · replace hc0 := of_decide_eq_true hc0
        (exfalso; simp only [map_rows, wrap_i64] at *; omega)
      · replace hc0 := of_decide_eq_false hc0
        conv => whnf
        refine ⟨_, hg, ?_⟩
        conv => whnf
        refine br_r rfl rfl ?_
        conv => whnf
        refine loop_at (α := Nat) [] (fun i => [(32, .int .i64 (i : Int)), (5, .sl .own 4 ((List.flatten (List.take i (pcs l.length l))).map it))]) (fun i => []) (fun i => i < (pcs l.length l).length) (fun i => (pcs l.length l).length - i) (0) (st_of ?_) ?_ (by rintro i _; rfl) ?_
        · conv => whnf
          refine And.intro (by with_reducible rfl) ?_
          conv => whnf
          refine And.intro (by with_reducible rfl) ?_
          conv => whnf
          refine And.intro (by with_reducible rfl) ?_
          conv => whnf
          refine And.intro (by (simp; done)) ?_
          conv => whnf
          refine And.intro (by with_reducible rfl) ?_
          conv => whnf
          refine And.intro (by with_reducible rfl) ?_
          conv => whnf
          refine And.intro (by with_reducible rfl) ?_
          conv => whnf
          refine And.intro (by with_reducible rfl) ?_
          conv => whnf
          refine And.intro (by with_reducible rfl) ?_
          conv => whnf
          refine And.intro (by with_reducible rfl) ?_
          conv => whnf
          refine And.intro (by with_reducible rfl) ?_
          conv => whnf
          refine And.intro (by with_reducible rfl) ?_
          conv => whnf
          refine And.intro (by with_reducible rfl) ?_
          conv => whnf
          refine And.intro (by with_reducible rfl) ?_
          conv => whnf
          refine And.intro (by with_reducible rfl) ?_
          conv => whnf
          refine And.intro (by with_reducible rfl) ?_
          conv => whnf
          refine And.intro (by with_reducible rfl) ?_
          conv => whnf
          refine And.intro (by with_reducible rfl) ?_
          conv => whnf
          refine And.intro (by decide) ?_
          exact True.intro
        · assumption
        · rintro i nextl0 hIl0 ihl0
          try dsimp only at hIl0
          by_cases hq : i + 1 < (pcs l.length l).length
          · conv => whnf
            refine And.intro (fun hc1 => ?_) (fun hc1 => ?_)
            · replace hc1 := of_decide_eq_true hc1
              conv => whnf
              refine And.intro (by omega) ?_
              refine ex_row (l := pcs l.length l) ?_ fun x hx => ?_
              · assumption
              · simp only [toNat_ofNat] at hx
                conv => whnf
                refine ⟨_, (gather_m (List.flatten (List.take i (pcs l.length l)))) _ _ _ _ _ _ _ _ ?_ ?_, ?_⟩
                · (exact decide_eq_true (by simp only [map_rows, wrap_i64] at *; omega))
                · (have := (flat_step hf hx).1; omega)
                · conv => whnf
                  refine br_l rfl rfl ?_
                  conv => whnf
                  refine br_l rfl rfl ?_
                  conv => whnf
                  refine br_l rfl rfl ?_
                  conv => whnf
                  refine br_l rfl rfl ?_
                  conv => whnf
                  refine br_l rfl rfl ?_
                  conv => whnf
                  refine br_l rfl rfl ?_
                  conv => whnf
                  refine br_l rfl rfl ?_
                  conv => whnf
                  refine br_r rfl rfl ?_
                  conv => whnf
                  refine And.intro (fun hc3 => ?_) (fun hc3 => ?_)
                  · replace hc3 := of_decide_eq_true (Bool.not_eq_false' _ |>.mp hc3)
                    conv => whnf
                    refine br_l rfl rfl ?_
                    conv => whnf
                    refine ⟨_, (tright_good _ _ _ _ _ _ _ x) ?_ ?_, ?_⟩
                    · (have := (flat_step hf hx).1; omega)
                    · (exact (hok x (List.mem_of_getElem? hx)).2)
                    · conv => whnf
                      refine br_l rfl rfl ?_
                      conv => whnf
                      refine br_r rfl rfl ?_
                      conv => whnf
                      refine And.intro (fun hc4 => ?_) (fun hc4 => ?_)
                      · replace hc4 := of_decide_eq_false (Bool.not_eq_true' _ |>.mp hc4)
                        (exact absurd (hok x (List.mem_of_getElem? hx)).1 (by assumption))
                      · replace hc4 := of_decide_eq_true (Bool.not_eq_false' _ |>.mp hc4)
                        conv => whnf
                        refine br_r rfl rfl ?_
                        conv => whnf
                        refine ihl0 (i + 1) _ ?_ ?_ (st_of ?_)
                        · assumption
                        · omega
                        · conv => whnf
                          refine And.intro (by with_reducible rfl) ?_
                          conv => whnf
                          refine And.intro (by with_reducible rfl) ?_
                          conv => whnf
                          refine And.intro (by with_reducible rfl) ?_
                          conv => whnf
                          refine And.intro (by (rw [(flat_step hf hx).2]; done)) ?_
                          conv => whnf
                          refine And.intro (by with_reducible rfl) ?_
                          conv => whnf
                          refine And.intro (by with_reducible rfl) ?_
                          conv => whnf
                          refine And.intro (by with_reducible rfl) ?_
                          conv => whnf
                          refine And.intro (by with_reducible rfl) ?_
                          conv => whnf
                          refine And.intro (by with_reducible rfl) ?_
                          conv => whnf
                          refine And.intro (by with_reducible rfl) ?_
                          conv => whnf
                          refine And.intro (by with_reducible rfl) ?_
                          conv => whnf
                          refine And.intro (by with_reducible rfl) ?_
                          conv => whnf
                          refine And.intro (by with_reducible rfl) ?_
                          conv => whnf
                          refine And.intro (by with_reducible rfl) ?_
                          conv => whnf
                          refine And.intro (by with_reducible rfl) ?_
                          conv => whnf
                          refine And.intro (by with_reducible rfl) ?_
                          conv => whnf
                          refine And.intro (by with_reducible rfl) ?_
                          conv => whnf
                          refine And.intro (by with_reducible rfl) ?_
                          conv => whnf
                          refine And.intro (by (simp only [wrap_i64, wrap_u64, wrap_u32, wrap_u16, wrap_u8, maxLen_eq, mmI] at *; omega)) ?_
                          exact True.intro
                  · replace hc3 := of_decide_eq_false (Bool.not_eq_true' _ |>.mp hc3)
                    (refine nf_dec (by assumption) ?_; simp only [map_rows, wrap_i64] at *; omega)
            · replace hc1 := of_decide_eq_false hc1
              (exfalso; simp only [map_rows, wrap_i64] at *; omega)
          · conv => whnf
            refine And.intro (fun hc5 => ?_) (fun hc5 => ?_)
            · replace hc5 := of_decide_eq_true hc5
              conv => whnf
              refine And.intro (by omega) ?_
              refine ex_row (l := pcs l.length l) ?_ fun x hx => ?_
              · assumption
              · simp only [toNat_ofNat] at hx
                conv => whnf
                refine ⟨_, (gather_l (List.flatten (List.take i (pcs l.length l)))) _ _ _ _ _ _ _ _ ?_ ?_, ?_⟩
                · (exact decide_eq_false (by simp only [map_rows, wrap_i64] at *; omega))
                · (have := (flat_step hf hx).1; omega)
                · conv => whnf
                  refine br_l rfl rfl ?_
                  conv => whnf
                  refine br_l rfl rfl ?_
                  conv => whnf
                  refine br_l rfl rfl ?_
                  conv => whnf
                  refine br_l rfl rfl ?_
                  conv => whnf
                  refine br_l rfl rfl ?_
                  conv => whnf
                  refine br_l rfl rfl ?_
                  conv => whnf
                  refine br_l rfl rfl ?_
                  conv => whnf
                  refine br_r rfl rfl ?_
                  conv => whnf
                  refine And.intro (fun hc7 => ?_) (fun hc7 => ?_)
                  · replace hc7 := of_decide_eq_true (Bool.not_eq_false' _ |>.mp hc7)
                    conv => whnf
                    refine br_l rfl rfl ?_
                    conv => whnf
                    refine ⟨_, (tright_good _ _ _ _ _ _ _ x) ?_ ?_, ?_⟩
                    · (have := (flat_step hf hx).1; omega)
                    · (exact (hok x (List.mem_of_getElem? hx)).2)
                    · conv => whnf
                      refine br_l rfl rfl ?_
                      conv => whnf
                      refine br_r rfl rfl ?_
                      conv => whnf
                      refine And.intro (fun hc8 => ?_) (fun hc8 => ?_)
                      · replace hc8 := of_decide_eq_false (Bool.not_eq_true' _ |>.mp hc8)
                        (exact absurd (hok x (List.mem_of_getElem? hx)).1 (by assumption))
                      · replace hc8 := of_decide_eq_true (Bool.not_eq_false' _ |>.mp hc8)
                        conv => whnf
                        refine br_l rfl rfl ?_
                        conv => whnf
                        refine ⟨_, (same18_good (List.flatten (List.take i (pcs l.length l)) ++ x) l) ?_ ?_, ?_⟩
                        · (have := (flat_step hf hx).1; rw [List.length_append]; omega)
                        · omega
                        · conv => whnf
                          refine And.intro (fun hc9 => ?_) (fun hc9 => ?_)
                          · replace hc9 := of_decide_eq_true hc9
                            conv => whnf
                            refine br_l rfl rfl ?_
                            conv => whnf
                            refine br_l rfl rfl ?_
                            conv => whnf
                            refine br_l rfl rfl ?_
                            conv => whnf
                            refine br_l rfl rfl ?_
                            conv => whnf
                            refine ⟨_, awake18_good, ?_⟩
                            conv => whnf
                            refine br_l rfl rfl ?_
                            conv => whnf
                            refine AV.of_eqv ?_
                            conv => whnf
                            refine And.intro (by with_reducible rfl) ?_
                            exact True.intro
                          · replace hc9 := of_decide_eq_false hc9
                            (exact absurd (flat_last hf hx hq) (by assumption))
                  · replace hc7 := of_decide_eq_false (Bool.not_eq_true' _ |>.mp hc7)
                    (refine nt_dec (by assumption) ?_; simp only [map_rows, wrap_i64] at *; omega)
            · replace hc5 := of_decide_eq_false hc5
              (exfalso; simp only [map_rows, wrap_i64] at *; omega)
    · have hn : (cutR l).1 = [] := by
        by_cases h48 : 48 < l.length
        · rw [cutR_long h48]
        · by_cases ha : (all l).2 = 0
          · rw [cutR_ok h48 ha] at hc; exact absurd rfl hc
          · rw [cutR_bad h48 ha]
      have hg := cut18_good l (by omega) hd
      rw [hn] at hg
      apply good_at ak11 rfl rfl rfl
      conv => whnf
      refine And.intro (fun hc0 => ?_) (fun hc0 => ?_)
      · replace hc0 := of_decide_eq_true hc0
        (exfalso; simp only [map_rows] at *; omega)
      · replace hc0 := of_decide_eq_false hc0
        conv => whnf
        refine ⟨_, hg, ?_⟩
        conv => whnf
        refine And.intro (fun hc1 => ?_) (fun hc1 => ?_)
        · replace hc1 := of_decide_eq_false (Bool.not_eq_true' _ |>.mp hc1)
          conv => whnf
          refine br_l rfl rfl ?_
          conv => whnf
          refine ⟨_, awake18_good, ?_⟩
          conv => whnf
          refine br_l rfl rfl ?_
          conv => whnf
          refine AV.of_eqv ?_
          conv => whnf
          refine And.intro (by with_reducible rfl) ?_
          exact True.intro
        · replace hc1 := of_decide_eq_true (Bool.not_eq_false' _ |>.mp hc1)
          contradiction
end Go.Proofs.Ytkcdeefnkbbacaa

/- Windows: what is asked of one. -/
import Derived.Test.YtkcdeefnkbbacaaW16b
set_option maxRecDepth 100000
set_option linter.unusedSimpArgs false
set_option linter.unusedVariables false
namespace Go.Proofs.Ytkcdeefnkbbacaa
open Go.RowKit
set_option maxHeartbeats 4000000
/-- what is ahead: rising, near above next -/
def SndL (n : Int) (l : List Int) : Prop := l.Pairwise (· < ·) ∧ ∀ x ∈ l, n < x ∧ x < n + 8 ∧ x ≤ 65535
theorem snd_ahead {n x : Int} (hn : 0 ≤ n ∧ n ≤ 65535) (h : n < x ∧ x < n + 8 ∧ x ≤ 65535) : aheadI x n = x - n := if_pos ⟨by omega, by omega, by omega, by omega, by omega⟩
theorem snd_next {l : List Int} {i : Nat} {x : Int} (hp : l.Pairwise (· < ·)) (hx : l[i]? = some x) : ∀ y ∈ l.drop (i + 1), x < y := by
  have h := hp.drop (i := i)
  rw [drop_at hx] at h
  exact (List.pairwise_cons.1 h).1
theorem ahead_near {n x : Int} (hn : 0 ≤ n ∧ n ≤ 65535) (h : n < x ∧ x < n + 8 ∧ x ≤ 65535) : Good Try.prog 124 [.int .i64 x, .int .i64 n] (.int .i64 (x - n)) :=
  (ahead_good x n).eq (by rw [snd_ahead hn h])
theorem sound_good (n : Int) (l : List Int) (hn : 0 ≤ n ∧ n ≤ 65535) (h : SndL n l) (hl : l.length ≤ 1000000) : Good Try.prog 62 [eW n l] (.bool true) := by
  apply good_at ak62 rfl rfl rfl
  conv => whnf
  refine And.intro (fun hc0 => ?_) (fun hc0 => ?_)
  · replace hc0 := of_decide_eq_true hc0
    (exfalso; omega)
  · replace hc0 := of_decide_eq_false hc0
    conv => whnf
    refine loop_at (α := Nat × Int) [] (fun ⟨i, last⟩ => [(14, .int .i64 (i : Int)), (3, .int .i64 last)]) (fun ⟨i, last⟩ => []) (fun ⟨i, last⟩ => i ≤ l.length ∧ ∀ x ∈ l.drop i, last < x) (fun ⟨i, last⟩ => l.length - i) ((0, n)) (st_of ?_) ?_ (by rintro ⟨i, last⟩ _; rfl) ?_
    · conv => whnf
      refine And.intro (by with_reducible rfl) ?_
      conv => whnf
      refine And.intro (by with_reducible rfl) ?_
      conv => whnf
      refine And.intro (by with_reducible rfl) ?_
      refine And.intro (by with_reducible rfl) ?_
      conv => whnf
      refine And.intro (by with_reducible rfl) ?_
      conv => whnf
      refine And.intro (by with_reducible rfl) ?_
      refine And.intro (by with_reducible rfl) ?_
      conv => whnf
      refine And.intro (by with_reducible rfl) ?_
      conv => whnf
      refine And.intro (by with_reducible rfl) ?_
      conv => whnf
      refine And.intro (by with_reducible rfl) ?_
      refine And.intro (by with_reducible rfl) ?_
      conv => whnf
      refine And.intro (by with_reducible rfl) ?_
      conv => whnf
      refine And.intro (by with_reducible rfl) ?_
      refine And.intro (by with_reducible rfl) ?_
      conv => whnf
      refine And.intro (by with_reducible rfl) ?_
      conv => whnf
      refine And.intro (by with_reducible rfl) ?_
      conv => whnf
      refine And.intro (by decide) ?_
      conv => whnf
      refine And.intro (by with_reducible rfl) ?_
      conv => whnf
      refine And.intro (by with_reducible rfl) ?_
      exact True.intro
    · dsimp only
      (exact ⟨Nat.zero_le _, fun x hx => (h.2 x hx).1⟩)
    · rintro ⟨i, last⟩ nextl0 hIl0 ihl0
      try dsimp only at hIl0
      conv => whnf
      refine And.intro (fun hc1 => ?_) (fun hc1 => ?_)
      · replace hc1 := of_decide_eq_true hc1
        conv => whnf
        refine And.intro (by omega) ?_
        refine ex_row (l := l) ?_ fun x hx => ?_
        · (simp only [map_rows] at *; omega)
        · simp only [toNat_ofNat] at hx
          conv => whnf
          refine And.intro (fun hc3 => ?_) (fun hc3 => ?_)
          · replace hc3 := of_decide_eq_false hc3
            conv => whnf
            refine br_l rfl rfl ?_
            conv => whnf
            refine br_l rfl rfl ?_
            conv => whnf
            refine br_l rfl rfl ?_
            conv => whnf
            refine br_l rfl rfl ?_
            conv => whnf
            refine ⟨_, (ahead_near hn (h.2 x (List.mem_of_getElem? hx))), ?_⟩
            conv => whnf
            refine br_l rfl rfl ?_
            conv => whnf
            refine br_r rfl rfl ?_
            conv => whnf
            refine And.intro (fun hc4 => ?_) (fun hc4 => ?_)
            · replace hc4 := of_decide_eq_true hc4
              (exfalso; have := h.2 x (List.mem_of_getElem? hx); omega)
            · replace hc4 := of_decide_eq_false hc4
              conv => whnf
              refine ihl0 ((i + 1, x)) _ ?_ ?_ (st_of ?_)
              · dsimp only
                (have := lt_at hx; exact ⟨by omega, snd_next h.1 hx⟩)
              · dsimp only
                (simp only [map_rows] at *; omega)
              · conv => whnf
                refine And.intro (by with_reducible rfl) ?_
                conv => whnf
                refine And.intro (by with_reducible rfl) ?_
                conv => whnf
                refine And.intro (by with_reducible rfl) ?_
                refine And.intro (by with_reducible rfl) ?_
                conv => whnf
                refine And.intro (by with_reducible rfl) ?_
                conv => whnf
                refine And.intro (by with_reducible rfl) ?_
                refine And.intro (by with_reducible rfl) ?_
                conv => whnf
                refine And.intro (by with_reducible rfl) ?_
                conv => whnf
                refine And.intro (by with_reducible rfl) ?_
                conv => whnf
                refine And.intro (by with_reducible rfl) ?_
                refine And.intro (by with_reducible rfl) ?_
                conv => whnf
                refine And.intro (by with_reducible rfl) ?_
                conv => whnf
                refine And.intro (by with_reducible rfl) ?_
                refine And.intro (by with_reducible rfl) ?_
                conv => whnf
                refine And.intro (by with_reducible rfl) ?_
                conv => whnf
                refine And.intro (by with_reducible rfl) ?_
                conv => whnf
                refine And.intro (by (simp only [wrap_i64, wrap_u64, wrap_u32, wrap_u16, wrap_u8, maxLen_eq, mmI] at *; omega)) ?_
                conv => whnf
                refine And.intro (by with_reducible rfl) ?_
                conv => whnf
                refine And.intro (by with_reducible rfl) ?_
                exact True.intro
          · replace hc3 := of_decide_eq_true hc3
            (exfalso; have := hIl0.2 x (by rw [drop_at hx]; simp); omega)
      · replace hc1 := of_decide_eq_false hc1
        conv => whnf
        refine AV.of_eqv ?_
        conv => whnf
        refine And.intro (by with_reducible rfl) ?_
        exact True.intro
theorem equalI_good (l m : List It) (hl : l.length ≤ 1000000) (hm : m.length ≤ 1000000) : Good Try.prog 103 [.sl .sh 4 (l.map it), .sl .sh 4 (m.map it)] (.bool (decide (l = m))) := by
  apply good_at ak103 rfl rfl rfl
  conv => whnf
  refine And.intro (fun hc0 => ?_) (fun hc0 => ?_)
  · replace hc0 := of_decide_eq_false (Bool.not_eq_true' _ |>.mp hc0)
    conv => whnf
    refine AV.of_eqv ?_
    conv => whnf
    refine And.intro (by (exact (decide_eq_false (by rintro rfl; omega)).symm)) ?_
    exact True.intro
  · replace hc0 := of_decide_eq_true (Bool.not_eq_false' _ |>.mp hc0)
    conv => whnf
    refine loop_at (α := Nat) [] (fun i => [(13, .int .i64 (i : Int))]) (fun i => []) (fun i => i ≤ l.length ∧ l.take i = m.take i) (fun i => l.length - i) (0) (st_of ?_) ?_ (by rintro i _; rfl) ?_
    · conv => whnf
      refine And.intro (by with_reducible rfl) ?_
      conv => whnf
      refine And.intro (by with_reducible rfl) ?_
      conv => whnf
      refine And.intro (by with_reducible rfl) ?_
      conv => whnf
      refine And.intro (by with_reducible rfl) ?_
      conv => whnf
      refine And.intro (by with_reducible rfl) ?_
      conv => whnf
      refine And.intro (by with_reducible rfl) ?_
      conv => whnf
      refine And.intro (by with_reducible rfl) ?_
      conv => whnf
      refine And.intro (by with_reducible rfl) ?_
      conv => whnf
      refine And.intro (by with_reducible rfl) ?_
      conv => whnf
      refine And.intro (by decide) ?_
      exact True.intro
    · (exact ⟨by omega, rfl⟩)
    · rintro i nextl0 hIl0 ihl0
      try dsimp only at hIl0
      conv => whnf
      refine And.intro (fun hc1 => ?_) (fun hc1 => ?_)
      · replace hc1 := of_decide_eq_true hc1
        conv => whnf
        refine And.intro (by exact rfl) ?_
        conv => whnf
        refine And.intro (by omega) ?_
        refine ex_row (l := l) ?_ fun x hx => ?_
        · (simp only [map_rows, maxLen_eq] at *; omega)
        · simp only [toNat_ofNat] at hx
          conv => whnf
          refine And.intro (by omega) ?_
          refine ex_row (l := m) ?_ fun y hy => ?_
          · (simp only [map_rows, maxLen_eq] at *; omega)
          · simp only [toNat_ofNat] at hy
            conv => whnf
            refine And.intro (fun hc4 => ?_) (fun hc4 => ?_)
            · simp only [Bool.not_eq_true', Bool.not_eq_false', Bool.and_eq_true, Bool.and_eq_false_imp, Bool.or_eq_true, Bool.or_eq_false_iff, Bool.and_true, Bool.true_and, Bool.not_true, Bool.not_false, decide_eq_true_eq, decide_eq_false_iff_not, Bool.decide_and] at hc4
              conv => whnf
              refine AV.of_eqv ?_
              conv => whnf
              refine And.intro (by (exact (decide_eq_false (ne_at hx hy (by rintro rfl; simp_all))).symm)) ?_
              exact True.intro
            · simp only [Bool.not_eq_true', Bool.not_eq_false', Bool.and_eq_true, Bool.and_eq_false_imp, Bool.or_eq_true, Bool.or_eq_false_iff, Bool.and_true, Bool.true_and, Bool.not_true, Bool.not_false, decide_eq_true_eq, decide_eq_false_iff_not, Bool.decide_and] at hc4
              conv => whnf
              refine ihl0 (i + 1) _ ?_ ?_ (st_of ?_)
              · (have := lt_at hx; exact ⟨by omega, eq_next hIl0.2 hx hy (by simp_all [Prod.ext_iff])⟩)
              · (simp only [map_rows, maxLen_eq] at *; omega)
              · conv => whnf
                refine And.intro (by with_reducible rfl) ?_
                conv => whnf
                refine And.intro (by with_reducible rfl) ?_
                conv => whnf
                refine And.intro (by with_reducible rfl) ?_
                conv => whnf
                refine And.intro (by with_reducible rfl) ?_
                conv => whnf
                refine And.intro (by with_reducible rfl) ?_
                conv => whnf
                refine And.intro (by with_reducible rfl) ?_
                conv => whnf
                refine And.intro (by with_reducible rfl) ?_
                conv => whnf
                refine And.intro (by with_reducible rfl) ?_
                conv => whnf
                refine And.intro (by with_reducible rfl) ?_
                conv => whnf
                refine And.intro (by (simp only [wrap_i64, wrap_u64, wrap_u32, wrap_u16, wrap_u8, maxLen_eq, mmI] at *; omega)) ?_
                exact True.intro
      · replace hc1 := of_decide_eq_false hc1
        conv => whnf
        refine AV.of_eqv ?_
        conv => whnf
        refine And.intro (by (exact (decide_eq_true (eq_end hIl0.2 (by simp only [map_rows] at *; omega) (by simp only [map_rows] at *; omega))).symm)) ?_
        exact True.intro
theorem eq_nil : Good Try.prog 103 [.sl .sh 4 [], .sl .sh 4 []] (.bool true) := equalI_good [] [] (by simp) (by simp)
theorem psame_pn (x y : Int) : Good Try.prog 35 [ePn x, ePn y] (.bool (decide (x = y))) := by
  apply good_at ak35 rfl rfl rfl
  conv => whnf
  refine br_l rfl rfl ?_
  conv => whnf
  refine br_l rfl rfl ?_
  conv => whnf
  refine br_l rfl rfl ?_
  conv => whnf
  refine br_l rfl rfl ?_
  conv => whnf
  refine br_l rfl rfl ?_
  conv => whnf
  refine br_l rfl rfl ?_
  conv => whnf
  refine br_l rfl rfl ?_
  conv => whnf
  refine br_l rfl rfl ?_
  conv => whnf
  refine br_l rfl rfl ?_
  conv => whnf
  refine br_l rfl rfl ?_
  conv => whnf
  refine br_l rfl rfl ?_
  conv => whnf
  refine br_l rfl rfl ?_
  conv => whnf
  refine And.intro (fun hc0 => ?_) (fun hc0 => ?_)
  · replace hc0 := of_decide_eq_true hc0
    conv => whnf
    refine br_l rfl rfl ?_
    conv => whnf
    refine br_l rfl rfl ?_
    conv => whnf
    refine br_l rfl rfl ?_
    conv => whnf
    refine br_l rfl rfl ?_
    conv => whnf
    refine br_l rfl rfl ?_
    conv => whnf
    refine br_l rfl rfl ?_
    conv => whnf
    refine br_l rfl rfl ?_
    conv => whnf
    refine br_l rfl rfl ?_
    conv => whnf
    refine br_l rfl rfl ?_
    conv => whnf
    refine br_l rfl rfl ?_
    conv => whnf
    refine ⟨_, eq_nil, ?_⟩
    conv => whnf
    refine br_l rfl rfl ?_
    conv => whnf
    refine AV.of_eqv ?_
    conv => whnf
    refine And.intro (by exact (decide_eq_true (by omega)).symm) ?_
    exact True.intro
  · replace hc0 := of_decide_eq_false hc0
    conv => whnf
    refine br_r rfl rfl ?_
    conv => whnf
    refine br_r rfl rfl ?_
    conv => whnf
    refine br_r rfl rfl ?_
    conv => whnf
    refine br_r rfl rfl ?_
    conv => whnf
    refine br_r rfl rfl ?_
    conv => whnf
    refine br_r rfl rfl ?_
    conv => whnf
    refine br_r rfl rfl ?_
    conv => whnf
    refine br_r rfl rfl ?_
    conv => whnf
    refine br_r rfl rfl ?_
    conv => whnf
    refine br_r rfl rfl ?_
    conv => whnf
    refine br_r rfl rfl ?_
    conv => whnf
    refine AV.of_eqv ?_
    conv => whnf
    refine And.intro (by exact (decide_eq_false (by omega)).symm) ?_
    exact True.intro
theorem efunc_good (l m : List Int) (hl : l.length ≤ 1000000) (hm : m.length ≤ 1000000) : Good Try.prog 125 [.sl .sh 8 (l.map pn), .sl .sh 8 (m.map pn), .fn 35] (.bool (decide (l = m))) := by
  apply good_at ak125 rfl rfl rfl
  conv => whnf
  refine And.intro (fun hc0 => ?_) (fun hc0 => ?_)
  · replace hc0 := of_decide_eq_false (Bool.not_eq_true' _ |>.mp hc0)
    conv => whnf
    refine AV.of_eqv ?_
    conv => whnf
    refine And.intro (by (exact (decide_eq_false (by rintro rfl; omega)).symm)) ?_
    exact True.intro
  · replace hc0 := of_decide_eq_true (Bool.not_eq_false' _ |>.mp hc0)
    conv => whnf
    refine loop_at (α := Nat) [] (fun i => [(17, .int .i64 (i : Int))]) (fun i => []) (fun i => i ≤ l.length ∧ l.take i = m.take i) (fun i => l.length - i) (0) (st_of ?_) ?_ (by rintro i _; rfl) ?_
    · conv => whnf
      refine And.intro (by with_reducible rfl) ?_
      conv => whnf
      refine And.intro (by with_reducible rfl) ?_
      conv => whnf
      refine And.intro (by with_reducible rfl) ?_
      conv => whnf
      refine And.intro (by with_reducible rfl) ?_
      conv => whnf
      refine And.intro (by with_reducible rfl) ?_
      conv => whnf
      refine And.intro (by with_reducible rfl) ?_
      conv => whnf
      refine And.intro (by with_reducible rfl) ?_
      conv => whnf
      refine And.intro (by with_reducible rfl) ?_
      conv => whnf
      refine And.intro (by with_reducible rfl) ?_
      conv => whnf
      refine And.intro (by with_reducible rfl) ?_
      conv => whnf
      refine And.intro (by decide) ?_
      exact True.intro
    · (exact ⟨by omega, rfl⟩)
    · rintro i nextl0 hIl0 ihl0
      try dsimp only at hIl0
      conv => whnf
      refine And.intro (fun hc1 => ?_) (fun hc1 => ?_)
      · replace hc1 := of_decide_eq_true hc1
        conv => whnf
        refine And.intro (by omega) ?_
        refine ex_row (l := l) ?_ fun x hx => ?_
        · (simp only [map_rows, maxLen_eq] at *; omega)
        · simp only [toNat_ofNat] at hx
          conv => whnf
          refine And.intro (by omega) ?_
          refine ex_row (l := m) ?_ fun y hy => ?_
          · (simp only [map_rows, maxLen_eq] at *; omega)
          · simp only [toNat_ofNat] at hy
            conv => whnf
            refine And.intro (by with_reducible rfl) ?_
            conv => whnf
            refine ⟨_, psame_pn _ _, ?_⟩
            conv => whnf
            refine And.intro (fun hc4 => ?_) (fun hc4 => ?_)
            · replace hc4 := of_decide_eq_false (Bool.not_eq_true' _ |>.mp hc4)
              conv => whnf
              refine AV.of_eqv ?_
              conv => whnf
              refine And.intro (by (exact (decide_eq_false (ne_at hx hy (by assumption))).symm)) ?_
              exact True.intro
            · replace hc4 := of_decide_eq_true (Bool.not_eq_false' _ |>.mp hc4)
              conv => whnf
              refine ihl0 (i + 1) _ ?_ ?_ (st_of ?_)
              · (have := lt_at hx; exact ⟨by omega, eq_next hIl0.2 hx hy (by assumption)⟩)
              · (simp only [map_rows, maxLen_eq] at *; omega)
              · conv => whnf
                refine And.intro (by with_reducible rfl) ?_
                conv => whnf
                refine And.intro (by with_reducible rfl) ?_
                conv => whnf
                refine And.intro (by with_reducible rfl) ?_
                conv => whnf
                refine And.intro (by with_reducible rfl) ?_
                conv => whnf
                refine And.intro (by with_reducible rfl) ?_
                conv => whnf
                refine And.intro (by with_reducible rfl) ?_
                conv => whnf
                refine And.intro (by with_reducible rfl) ?_
                conv => whnf
                refine And.intro (by with_reducible rfl) ?_
                conv => whnf
                refine And.intro (by with_reducible rfl) ?_
                conv => whnf
                refine And.intro (by with_reducible rfl) ?_
                conv => whnf
                refine And.intro (by (simp only [wrap_i64, wrap_u64, wrap_u32, wrap_u16, wrap_u8, maxLen_eq, mmI] at *; omega)) ?_
                exact True.intro
      · replace hc1 := of_decide_eq_false hc1
        conv => whnf
        refine AV.of_eqv ?_
        conv => whnf
        refine And.intro (by (exact (decide_eq_true (eq_end hIl0.2 (by simp only [map_rows] at *; omega) (by simp only [map_rows] at *; omega))).symm)) ?_
        exact True.intro
theorem wsame_good (n m : Int) (l k : List Int) (hl : l.length ≤ 1000000) (hk : k.length ≤ 1000000) : Good Try.prog 63 [eW n l, eW m k] (.bool (decide (n = m) && decide (l = k))) := by
  apply good_at ak63 rfl rfl rfl
  conv => whnf
  refine And.intro (fun hc0 => ?_) (fun hc0 => ?_)
  · replace hc0 := of_decide_eq_true hc0
    conv => whnf
    refine br_l rfl rfl ?_
    conv => whnf
    refine br_l rfl rfl ?_
    conv => whnf
    refine br_l rfl rfl ?_
    conv => whnf
    refine br_l rfl rfl ?_
    conv => whnf
    refine ⟨_, (efunc_good l k) ?_ ?_, ?_⟩
    · assumption
    · assumption
    · conv => whnf
      refine br_l rfl rfl ?_
      conv => whnf
      refine AV.of_eqv ?_
      conv => whnf
      refine And.intro (by (simp_all; done)) ?_
      exact True.intro
  · replace hc0 := of_decide_eq_false hc0
    conv => whnf
    refine br_r rfl rfl ?_
    conv => whnf
    refine br_r rfl rfl ?_
    conv => whnf
    refine br_r rfl rfl ?_
    conv => whnf
    refine br_r rfl rfl ?_
    conv => whnf
    refine br_r rfl rfl ?_
    conv => whnf
    refine AV.of_eqv ?_
    conv => whnf
    refine And.intro (by (simp_all; done)) ?_
    exact True.intro
theorem wbits_good (n : Int) (l : List Int) (hl : l.length ≤ 1000000) (hb : ∀ s ∈ l, s ≤ 9223372036854775807) : Good Try.prog 64 [eW n l] (.tuple [.int .i64 n, .int .i64 (ofB n l)]) := by
  apply good_at ak64 rfl rfl rfl
  conv => whnf
  refine And.intro (by exact rfl) ?_
  conv => whnf
  refine ⟨_, (seqs_pn n l) ?_, ?_⟩
  · assumption
  · conv => whnf
    refine ⟨_, (of_good n l) ?_ ?_, ?_⟩
    · assumption
    · assumption
    · conv => whnf
      refine AV.of_eqv ?_
      conv => whnf
      refine And.intro (by with_reducible rfl) ?_
      conv => whnf
      refine And.intro (by with_reducible rfl) ?_
      exact True.intro
theorem room_good (n : Int) (l : List Qt) (hl : l.length ≤ 1000000) : Good Try.prog 68 [eV n l] (.int .i64 (max 0 (8 - (l.length : Int)))) := by
  apply good_at ak68 rfl rfl rfl
  conv => whnf
  refine AV.of_eqv ?_
  conv => whnf
  refine And.intro (by (simp only [map_rows, mmI, wrap_i64]; omega)) ?_
  exact True.intro
theorem rroom_good (n : Int) (l : List Qt) (hl : l.length ≤ 1000000) : Good Try.prog 69 [eV n l] (.int .i64 (max 0 (8 - (l.length : Int)))) := by
  apply good_at ak69 rfl rfl rfl
  conv => whnf
  refine AV.of_eqv ?_
  conv => whnf
  refine And.intro (by (simp only [map_rows, mmI, wrap_i64]; omega)) ?_
  exact True.intro
theorem long8_good (f a b c d s : Int) (m : Bool) (l : List It) : Good Try.prog 26 [eT f a b c d s m l] (.bool (decide (100 < l.length))) := by
  apply good_at ak26 rfl rfl rfl
  conv => whnf
  refine AV.of_eqv ?_
  conv => whnf
  refine And.intro (by (exact decide_eq_decide.2 (by simp only [map_rows]; omega))) ?_
  exact True.intro
end Go.Proofs.Ytkcdeefnkbbacaa

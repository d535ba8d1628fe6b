/- What is missing. -/
import Derived.Test.YtkcdeefnkbbacaaW16d
set_option maxRecDepth 100000
set_option linter.unusedSimpArgs false
set_option linter.unusedVariables false
namespace Go.Proofs.Ytkcdeefnkbbacaa
open Go.RowKit
set_option maxHeartbeats 4000000
abbrev rtN (x : Int) : Prop := 0 ≤ x ∧ x ≤ 65535
def topI (l : List Int) : Int := l.foldl (fun t x => if rtN x then max t x else t) (-1)
def b1 (b : Bool) : List AV := [.bool b]
def thB (n : Int) (l : List Int) : List Bool := (List.range 8).map fun (k : Nat) => l.any fun x => decide (rtN x ∧ x = n + k)
theorem top_at {l : List Int} {i : Nat} {x : Int} (hx : l[i]? = some x) : topI (l.take (i + 1)) = if rtN x then max (topI (l.take i)) x else topI (l.take i) := by
  unfold topI; rw [take_at hx, List.foldl_append]; rfl
theorem th_len (n : Int) (l : List Int) : (thB n l).length = 8 := by unfold thB; simp
theorem th_get {n : Int} {l : List Int} {k : Nat} (hk : k < 8) : (thB n l)[k]? = some (l.any fun x => decide (rtN x ∧ x = n + k)) := by
  unfold thB; rw [List.getElem?_map, List.getElem?_range hk]; rfl
theorem th_set {n : Int} {l : List Int} {i : Nat} {x : Int} (hx : l[i]? = some x) (hr : rtN x) (h0 : n ≤ x) (h7 : x - n ≤ 7) : ((thB n (l.take i)).map b1).set (0 + (x - n).toNat) (b1 true) = (thB n (l.take (i + 1))).map b1 := by
  rw [Nat.zero_add, ← List.map_set]
  congr 1
  apply List.ext_getElem?
  intro j
  by_cases hj : j < 8
  · rw [th_get hj]
    by_cases e : (x - n).toNat = j
    · rw [e, List.getElem?_set_self (by rw [th_len]; exact hj)]
      congr 1
      symm
      rw [List.any_eq_true]
      exact ⟨x, by rw [take_at hx]; simp, decide_eq_true ⟨hr, by omega⟩⟩
    · rw [List.getElem?_set_ne e, th_get hj, take_at hx, List.any_append]
      congr 1
      have : (([x] : List Int).any fun y => decide (rtN y ∧ y = n + j)) = false := by simp; omega
      rw [this, Bool.or_false]
  · rw [List.getElem?_eq_none (by rw [List.length_set, th_len]; omega), List.getElem?_eq_none (by rw [th_len]; omega)]
theorem th_skip {n : Int} {l : List Int} {i : Nat} {x : Int} (hx : l[i]? = some x) (h : ¬ (rtN x ∧ n ≤ x ∧ x - n ≤ 7)) : thB n (l.take i) = thB n (l.take (i + 1)) := by
  apply List.ext_getElem?
  intro j
  by_cases hj : j < 8
  · rw [th_get hj, th_get hj, take_at hx, List.any_append]
    congr 1
    have : (([x] : List Int).any fun y => decide (rtN y ∧ y = n + j)) = false := by
      rw [List.any_cons, List.any_nil, Bool.or_false]
      exact decide_eq_false (by omega)
    rw [this, Bool.or_false]
  · rw [List.getElem?_eq_none (by rw [th_len]; omega), List.getElem?_eq_none (by rw [th_len]; omega)]
def msP (n : Int) (l : List Int) (j : Nat) : Bool := decide (n + j < topI l) && !(l.any fun x => decide (rtN x ∧ x = n + j))
def msI (n : Int) (l : List Int) (k : Nat) : List Int := ((List.range k).filter (msP n l)).map fun (j : Nat) => n + j
def missI (n : Int) (l : List Int) : List Int := if rtN n then msI n l 8 else []
theorem ms_succ (n : Int) (l : List Int) (k : Nat) : msI n l (k + 1) = msI n l k ++ if msP n l k then [n + (k : Int)] else [] := by
  unfold msI
  rw [List.range_succ, List.filter_append, List.map_append]
  congr 1
  by_cases h : msP n l k = true
  · rw [List.filter_cons_of_pos h, if_pos h]; rfl
  · rw [List.filter_cons_of_neg h, if_neg h]; rfl
theorem ms_len (n : Int) (l : List Int) (k : Nat) : (msI n l k).length ≤ k := by
  unfold msI
  rw [List.length_map]
  have := List.length_filter_le (msP n l) (List.range k)
  rw [List.length_range] at this
  exact this
theorem ms_stop {n : Int} {l : List Int} {k : Nat} (h : topI l ≤ n + k) : ∀ m, msI n l (k + m) = msI n l k
  | 0 => rfl
  | m + 1 => by
    rw [← Nat.add_assoc, ms_succ, ms_stop h m]
    have : msP n l (k + m) = false := by unfold msP; rw [decide_eq_false (by omega)]; rfl
    rw [this]; simp
theorem ms_end {n : Int} {l : List Int} {k : Nat} (hk : k ≤ 8) (h : 7 < k ∨ topI l ≤ n + k) : msI n l k = msI n l 8 := by
  rcases h with h | h
  · rw [show k = 8 by omega]
  · rw [← ms_stop h (8 - k), show k + (8 - k) = 8 by omega]
theorem th_b {n : Int} {l : List Int} {k : Nat} {b : Bool} (hb : (thB n l)[0 + k]? = some b) (hk : k < 8) : b = l.any fun x => decide (rtN x ∧ x = n + k) := by
  rw [Nat.zero_add, th_get hk] at hb; exact (Option.some.inj hb).symm
theorem ms_yes {n : Int} {l : List Int} {k : Nat} {b : Bool} (hb : (thB n l)[0 + k]? = some b) (hk : k < 8) (ht : n + k < topI l) (h : b = false) : (msI n l k).map i1 ++ [[.int .i64 (n + (k : Int))]] = (msI n l (k + 1)).map i1 := by
  have e := th_b hb hk
  rw [h] at e
  rw [ms_succ, if_pos (by unfold msP; rw [decide_eq_true ht, ← e]; rfl), List.map_append]; rfl
theorem ms_no {n : Int} {l : List Int} {k : Nat} {b : Bool} (hb : (thB n l)[0 + k]? = some b) (hk : k < 8) (h : b = true) : (msI n l k).map i1 = (msI n l (k + 1)).map i1 := by
  have e := th_b hb hk
  rw [h] at e
  rw [ms_succ, if_neg (by unfold msP; rw [← e]; simp), List.append_nil]
theorem top_b (l : List Int) : -1 ≤ topI l ∧ topI l ≤ 65535 := by
  have key : ∀ (l : List Int) (t : Int), -1 ≤ t → t ≤ 65535 → -1 ≤ l.foldl (fun t x => if rtN x then max t x else t) t ∧ l.foldl (fun t x => if rtN x then max t x else t) t ≤ 65535 := by
    intro l
    induction l with
    | nil => intro t h1 h2; exact ⟨h1, h2⟩
    | cons x l ih =>
      intro t h1 h2
      rw [List.foldl_cons]
      split
      · exact ih _ (by omega) (by omega)
      · exact ih _ h1 h2
  exact key l (-1) (by omega) (by omega)
theorem missing_good (n : Int) (l : List Int) (hl : l.length ≤ 1000000) : Good Try.prog 75 [.int .i64 n, .sl .sh 1 (l.map i1)] (.sl .own 1 ((missI n l).map i1)) := by
  have htb := top_b l
  by_cases hn : rtN n
  · rw [show missI n l = msI n l 8 from if_pos hn]
    apply good_at ak75 rfl rfl rfl
    conv => whnf
    refine ⟨_, sright_good _, ?_⟩
    conv => whnf
    refine And.intro (fun hc0 => ?_) (fun hc0 => ?_)
    · replace hc0 := of_decide_eq_false (Bool.not_eq_true' _ |>.mp hc0)
      contradiction
    · replace hc0 := of_decide_eq_true (Bool.not_eq_false' _ |>.mp hc0)
      conv => whnf
      refine loop_at (α := Nat) [] (fun i => [(17, .int .i64 (i : Int)), (5, .int .i64 (topI (l.take i)))]) (fun i => [(0, some ⟨false, 1, (thB n (l.take i)).map b1⟩)]) (fun i => i ≤ l.length) (fun i => l.length - i) (0) (st_of ?_) ?_ (by rintro i _; rfl) ?_
      · conv => whnf
        refine And.intro (by with_reducible rfl) ?_
        conv => whnf
        refine And.intro (by with_reducible rfl) ?_
        conv => whnf
        refine And.intro (by with_reducible rfl) ?_
        conv => whnf
        refine And.intro (by exact rfl) ?_
        conv => whnf
        refine And.intro (by with_reducible rfl) ?_
        refine And.intro (by with_reducible rfl) ?_
        conv => whnf
        refine And.intro (by with_reducible rfl) ?_
        conv => whnf
        refine And.intro (by with_reducible rfl) ?_
        conv => whnf
        refine And.intro (by with_reducible rfl) ?_
        conv => whnf
        refine And.intro (by with_reducible rfl) ?_
        conv => whnf
        refine And.intro (by with_reducible rfl) ?_
        conv => whnf
        refine And.intro (by decide) ?_
        conv => whnf
        refine And.intro (by exact rfl) ?_
        exact True.intro
      · omega
      · rintro i nextl0 hIl0 ihl0
        try dsimp only at hIl0
        conv => whnf
        refine And.intro (fun hc1 => ?_) (fun hc1 => ?_)
        · replace hc1 := of_decide_eq_true hc1
          conv => whnf
          refine And.intro (by omega) ?_
          refine ex_row (l := l) ?_ fun x hx => ?_
          · (simp only [map_rows] at *; omega)
          · simp only [toNat_ofNat] at hx
            conv => whnf
            refine ⟨_, sright_good _, ?_⟩
            conv => whnf
            refine And.intro (fun hc3 => ?_) (fun hc3 => ?_)
            · replace hc3 := of_decide_eq_false (Bool.not_eq_true' _ |>.mp hc3)
              conv => whnf
              refine ihl0 (i + 1) _ ?_ ?_ (st_of ?_)
              · (simp only [map_rows] at *; omega)
              · (simp only [map_rows] at *; omega)
              · conv => whnf
                refine And.intro (by with_reducible rfl) ?_
                conv => whnf
                refine And.intro (by with_reducible rfl) ?_
                conv => whnf
                refine And.intro (by with_reducible rfl) ?_
                conv => whnf
                refine And.intro (by (rw [top_at hx, if_neg (by assumption)])) ?_
                conv => whnf
                refine And.intro (by with_reducible rfl) ?_
                refine And.intro (by with_reducible rfl) ?_
                conv => whnf
                refine And.intro (by with_reducible rfl) ?_
                conv => whnf
                refine And.intro (by with_reducible rfl) ?_
                conv => whnf
                refine And.intro (by with_reducible rfl) ?_
                conv => whnf
                refine And.intro (by with_reducible rfl) ?_
                conv => whnf
                refine And.intro (by with_reducible rfl) ?_
                conv => whnf
                refine And.intro (by (simp only [wrap_i64, wrap_u64, wrap_u32, wrap_u16, wrap_u8, maxLen_eq, mmI] at *; omega)) ?_
                conv => whnf
                refine And.intro (by (rw [th_skip hx (fun h => absurd h.1 (by assumption))])) ?_
                exact True.intro
            · replace hc3 := of_decide_eq_true (Bool.not_eq_false' _ |>.mp hc3)
              conv => whnf
              refine And.intro (fun hc4 => ?_) (fun hc4 => ?_)
              · replace hc4 := of_decide_eq_true hc4
                conv => whnf
                refine br_l rfl rfl ?_
                conv => whnf
                refine br_l rfl rfl ?_
                conv => whnf
                refine And.intro (fun hc5 => ?_) (fun hc5 => ?_)
                · replace hc5 := of_decide_eq_true hc5
                  conv => whnf
                  refine And.intro (by assumption) ?_
                  refine And.intro (by omega) ?_
                  conv => whnf
                  refine ex_row (l := thB n (List.take i l)) ?_ fun b hb => ?_
                  · (rw [th_len]; omega)
                  · conv => whnf
                    refine ihl0 (i + 1) _ ?_ ?_ (st_of ?_)
                    · (simp only [map_rows] at *; omega)
                    · (simp only [map_rows] at *; omega)
                    · conv => whnf
                      refine And.intro (by with_reducible rfl) ?_
                      conv => whnf
                      refine And.intro (by with_reducible rfl) ?_
                      conv => whnf
                      refine And.intro (by with_reducible rfl) ?_
                      conv => whnf
                      refine And.intro (by (rw [top_at hx, if_pos (by assumption)]; rfl)) ?_
                      conv => whnf
                      refine And.intro (by with_reducible rfl) ?_
                      refine And.intro (by with_reducible rfl) ?_
                      conv => whnf
                      refine And.intro (by with_reducible rfl) ?_
                      conv => whnf
                      refine And.intro (by with_reducible rfl) ?_
                      conv => whnf
                      refine And.intro (by with_reducible rfl) ?_
                      conv => whnf
                      refine And.intro (by with_reducible rfl) ?_
                      conv => whnf
                      refine And.intro (by with_reducible rfl) ?_
                      conv => whnf
                      refine And.intro (by (simp only [wrap_i64, wrap_u64, wrap_u32, wrap_u16, wrap_u8, maxLen_eq, mmI] at *; omega)) ?_
                      conv => whnf
                      refine And.intro (by (rw [show IntKind.i64.wrap (x - n) = x - n by rw [wrap_i64]; omega]; exact th_set hx (by assumption) (by simp only [wrap_i64] at *; omega) (by simp only [wrap_i64] at *; omega))) ?_
                      exact True.intro
                · replace hc5 := of_decide_eq_false hc5
                  conv => whnf
                  refine ihl0 (i + 1) _ ?_ ?_ (st_of ?_)
                  · (simp only [map_rows] at *; omega)
                  · (simp only [map_rows] at *; omega)
                  · conv => whnf
                    refine And.intro (by with_reducible rfl) ?_
                    conv => whnf
                    refine And.intro (by with_reducible rfl) ?_
                    conv => whnf
                    refine And.intro (by with_reducible rfl) ?_
                    conv => whnf
                    refine And.intro (by (rw [top_at hx, if_pos (by assumption)]; rfl)) ?_
                    conv => whnf
                    refine And.intro (by with_reducible rfl) ?_
                    refine And.intro (by with_reducible rfl) ?_
                    conv => whnf
                    refine And.intro (by with_reducible rfl) ?_
                    conv => whnf
                    refine And.intro (by with_reducible rfl) ?_
                    conv => whnf
                    refine And.intro (by with_reducible rfl) ?_
                    conv => whnf
                    refine And.intro (by with_reducible rfl) ?_
                    conv => whnf
                    refine And.intro (by with_reducible rfl) ?_
                    conv => whnf
                    refine And.intro (by (simp only [wrap_i64, wrap_u64, wrap_u32, wrap_u16, wrap_u8, maxLen_eq, mmI] at *; omega)) ?_
                    conv => whnf
                    refine And.intro (by (rw [th_skip hx (fun h => by have := h.2; simp only [wrap_i64] at *; omega)])) ?_
                    exact True.intro
              · replace hc4 := of_decide_eq_false hc4
                conv => whnf
                refine br_r rfl rfl ?_
                conv => whnf
                refine br_r rfl rfl ?_
                conv => whnf
                refine br_r rfl rfl ?_
                conv => whnf
                refine ihl0 (i + 1) _ ?_ ?_ (st_of ?_)
                · (simp only [map_rows] at *; omega)
                · (simp only [map_rows] at *; omega)
                · conv => whnf
                  refine And.intro (by with_reducible rfl) ?_
                  conv => whnf
                  refine And.intro (by with_reducible rfl) ?_
                  conv => whnf
                  refine And.intro (by with_reducible rfl) ?_
                  conv => whnf
                  refine And.intro (by (rw [top_at hx, if_pos (by assumption)]; rfl)) ?_
                  conv => whnf
                  refine And.intro (by with_reducible rfl) ?_
                  refine And.intro (by with_reducible rfl) ?_
                  conv => whnf
                  refine And.intro (by with_reducible rfl) ?_
                  conv => whnf
                  refine And.intro (by with_reducible rfl) ?_
                  conv => whnf
                  refine And.intro (by with_reducible rfl) ?_
                  conv => whnf
                  refine And.intro (by with_reducible rfl) ?_
                  conv => whnf
                  refine And.intro (by with_reducible rfl) ?_
                  conv => whnf
                  refine And.intro (by (simp only [wrap_i64, wrap_u64, wrap_u32, wrap_u16, wrap_u8, maxLen_eq, mmI] at *; omega)) ?_
                  conv => whnf
                  refine And.intro (by (rw [th_skip hx (fun h => by have := h.2; simp only [wrap_i64] at *; omega)])) ?_
                  exact True.intro
        · replace hc1 := of_decide_eq_false hc1
          conv => whnf
          refine jump_at (α := Nat) [] (fun k => [(11, .int .i64 (k : Int)), (10, .sl .own 1 ((msI n l k).map i1)), (5, .int .i64 (topI l))]) (fun k => [(0, some ⟨false, 1, (thB n l).map b1⟩)]) (fun k => k ≤ 8) (fun k => 8 - k) (0) (st_of ?_) ?_ (by rintro k _; rfl) ?_
          · conv => whnf
            refine And.intro (by with_reducible rfl) ?_
            conv => whnf
            refine And.intro (by with_reducible rfl) ?_
            conv => whnf
            refine And.intro (by (rw [take_end (by simp only [map_rows] at *; omega)])) ?_
            conv => whnf
            refine And.intro (by with_reducible rfl) ?_
            refine And.intro (by with_reducible rfl) ?_
            conv => whnf
            refine And.intro (by exact rfl) ?_
            conv => whnf
            refine And.intro (by decide) ?_
            conv => whnf
            refine And.intro (by (rw [take_end (by simp only [map_rows] at *; omega)])) ?_
            exact True.intro
          · decide
          · rintro k nextj0 hIj0 ihj0
            try dsimp only at hIj0
            conv => whnf
            refine And.intro (fun hc7 => ?_) (fun hc7 => ?_)
            · replace hc7 := of_decide_eq_false hc7
              conv => whnf
              refine br_l rfl rfl ?_
              conv => whnf
              refine br_l rfl rfl ?_
              conv => whnf
              refine br_l rfl rfl ?_
              conv => whnf
              refine br_l rfl rfl ?_
              conv => whnf
              refine br_r rfl rfl ?_
              conv => whnf
              refine And.intro (fun hc8 => ?_) (fun hc8 => ?_)
              · replace hc8 := of_decide_eq_true hc8
                conv => whnf
                refine AV.of_eqv ?_
                conv => whnf
                refine And.intro (by (rw [ms_end hIj0 (by simp only [wrap_i64] at *; omega)])) ?_
                exact True.intro
              · replace hc8 := of_decide_eq_false hc8
                conv => whnf
                refine And.intro (by omega) ?_
                refine And.intro (by omega) ?_
                conv => whnf
                refine ex_row (l := thB n l) ?_ fun b hb => ?_
                · (rw [th_len]; omega)
                · simp only [toNat_ofNat] at hb
                  conv => whnf
                  refine And.intro (fun hc10 => ?_) (fun hc10 => ?_)
                  · simp only [Bool.not_eq_true', Bool.not_eq_false', Bool.and_eq_true, Bool.and_eq_false_imp, Bool.or_eq_true, Bool.or_eq_false_iff, Bool.and_true, Bool.true_and, Bool.not_true, Bool.not_false, decide_eq_true_eq, decide_eq_false_iff_not, Bool.decide_and] at hc10
                    conv => whnf
                    refine And.intro (by (simp; done)) ?_
                    refine And.intro (by (have := ms_len n l k; simp only [map_rows, maxLen_eq, List.length_cons, List.length_nil] at *; omega)) ?_
                    refine And.intro (by (have := ms_len n l k; simp only [map_rows, maxLen_eq, List.length_cons, List.length_nil] at *; omega)) ?_
                    conv => whnf
                    refine ihj0 (k + 1) _ ?_ ?_ (st_of ?_)
                    · omega
                    · omega
                    · conv => whnf
                      refine And.intro (by with_reducible rfl) ?_
                      conv => whnf
                      refine And.intro (by with_reducible rfl) ?_
                      conv => whnf
                      refine And.intro (by with_reducible rfl) ?_
                      conv => whnf
                      refine And.intro (by with_reducible rfl) ?_
                      refine And.intro (by with_reducible rfl) ?_
                      conv => whnf
                      refine And.intro (by (rw [show IntKind.i64.wrap (n + (k : Int)) = n + k by rw [wrap_i64]; omega]; exact ms_yes hb (by omega) (by simp only [wrap_i64] at *; omega) (by assumption))) ?_
                      conv => whnf
                      refine And.intro (by (simp only [wrap_i64, wrap_u64, wrap_u32, wrap_u16, wrap_u8, maxLen_eq, mmI] at *; omega)) ?_
                      conv => whnf
                      refine And.intro (by with_reducible rfl) ?_
                      exact True.intro
                  · simp only [Bool.not_eq_true', Bool.not_eq_false', Bool.and_eq_true, Bool.and_eq_false_imp, Bool.or_eq_true, Bool.or_eq_false_iff, Bool.and_true, Bool.true_and, Bool.not_true, Bool.not_false, decide_eq_true_eq, decide_eq_false_iff_not, Bool.decide_and] at hc10
                    conv => whnf
                    refine ihj0 (k + 1) _ ?_ ?_ (st_of ?_)
                    · omega
                    · omega
                    · conv => whnf
                      refine And.intro (by with_reducible rfl) ?_
                      conv => whnf
                      refine And.intro (by with_reducible rfl) ?_
                      conv => whnf
                      refine And.intro (by with_reducible rfl) ?_
                      conv => whnf
                      refine And.intro (by with_reducible rfl) ?_
                      refine And.intro (by with_reducible rfl) ?_
                      conv => whnf
                      refine And.intro (by (exact ms_no hb (by omega) (by assumption))) ?_
                      conv => whnf
                      refine And.intro (by (simp only [wrap_i64, wrap_u64, wrap_u32, wrap_u16, wrap_u8, maxLen_eq, mmI] at *; omega)) ?_
                      conv => whnf
                      refine And.intro (by with_reducible rfl) ?_
                      exact True.intro
            · replace hc7 := of_decide_eq_true hc7
              conv => whnf
              refine br_r rfl rfl ?_
              conv => whnf
              refine br_r rfl rfl ?_
              conv => whnf
              refine br_r rfl rfl ?_
              conv => whnf
              refine br_r rfl rfl ?_
              conv => whnf
              refine br_l rfl rfl ?_
              conv => whnf
              refine br_l rfl rfl ?_
              conv => whnf
              refine AV.of_eqv ?_
              conv => whnf
              refine And.intro (by (rw [ms_end hIj0 (by simp only [wrap_i64] at *; omega)])) ?_
              exact True.intro
  · rw [show missI n l = [] from if_neg hn]
    apply good_at ak75 rfl rfl rfl
    conv => whnf
    refine ⟨_, sright_good _, ?_⟩
    conv => whnf
    refine And.intro (fun hc0 => ?_) (fun hc0 => ?_)
    · replace hc0 := of_decide_eq_false (Bool.not_eq_true' _ |>.mp hc0)
      conv => whnf
      refine AV.of_eqv ?_
      conv => whnf
      refine And.intro (by decide) ?_
      exact True.intro
    · replace hc0 := of_decide_eq_true (Bool.not_eq_false' _ |>.mp hc0)
      contradiction
def pastB (l : List Int) (m : Int) : Bool := !(l.any fun x => decide (m < x ∧ rtN x))
theorem past_no {l : List Int} {m x : Int} {i : Nat} (hx : l[i]? = some x) (h1 : m < x) (h2 : rtN x) : false = pastB l m := by
  unfold pastB
  rw [List.any_eq_true.2 ⟨x, List.mem_of_getElem? hx, decide_eq_true ⟨h1, h2⟩⟩]; rfl
theorem past_step {l : List Int} {m x : Int} {i : Nat} (h : ((l.take i).any fun x => decide (m < x ∧ rtN x)) = false) (hx : l[i]? = some x) (hn : ¬ (m < x ∧ rtN x)) : ((l.take (i + 1)).any fun x => decide (m < x ∧ rtN x)) = false := by
  rw [take_at hx, List.any_append, h, List.any_cons, List.any_nil, decide_eq_false hn]; rfl
theorem past_yes {l : List Int} {m : Int} {i : Nat} (h : ((l.take i).any fun x => decide (m < x ∧ rtN x)) = false) (hi : ¬ i < l.length) : true = pastB l m := by
  rw [take_end hi] at h; unfold pastB; rw [h]; rfl
theorem past_good (l : List Int) (m : Int) (hl : l.length ≤ 1000000) : Good Try.prog 128 [.sl .sh 1 (l.map i1), .int .i64 m] (.bool (pastB l m)) := by
  apply good_at ak128 rfl rfl rfl
  conv => whnf
  refine loop_at (α := Nat) [] (fun i => [(9, .int .i64 (i : Int))]) (fun i => []) (fun i => i ≤ l.length ∧ ((l.take i).any fun x => decide (m < x ∧ rtN x)) = false) (fun i => l.length - i) (0) (st_of ?_) ?_ (by rintro i _; rfl) ?_
  · conv => whnf
    refine And.intro (by with_reducible rfl) ?_
    conv => whnf
    refine And.intro (by with_reducible rfl) ?_
    conv => whnf
    refine And.intro (by with_reducible rfl) ?_
    conv => whnf
    refine And.intro (by with_reducible rfl) ?_
    conv => whnf
    refine And.intro (by decide) ?_
    exact True.intro
  · (exact ⟨Nat.zero_le _, rfl⟩)
  · rintro i nextl0 hIl0 ihl0
    try dsimp only at hIl0
    conv => whnf
    refine And.intro (fun hc0 => ?_) (fun hc0 => ?_)
    · replace hc0 := of_decide_eq_true hc0
      conv => whnf
      refine And.intro (by omega) ?_
      refine ex_row (l := l) ?_ fun x hx => ?_
      · (simp only [map_rows] at *; omega)
      · simp only [toNat_ofNat] at hx
        conv => whnf
        refine And.intro (fun hc2 => ?_) (fun hc2 => ?_)
        · replace hc2 := of_decide_eq_true hc2
          conv => whnf
          refine br_l rfl rfl ?_
          conv => whnf
          refine ⟨_, rsright_good _, ?_⟩
          conv => whnf
          refine br_l rfl rfl ?_
          conv => whnf
          refine And.intro (fun hc3 => ?_) (fun hc3 => ?_)
          · replace hc3 := of_decide_eq_true hc3
            conv => whnf
            refine AV.of_eqv ?_
            conv => whnf
            refine And.intro (by (exact past_no hx (by assumption) (by assumption))) ?_
            exact True.intro
          · replace hc3 := of_decide_eq_false hc3
            conv => whnf
            refine ihl0 (i + 1) _ ?_ ?_ (st_of ?_)
            · (have := lt_at hx; exact ⟨by omega, past_step hIl0.2 hx (by omega)⟩)
            · (simp only [map_rows] at *; omega)
            · conv => whnf
              refine And.intro (by with_reducible rfl) ?_
              conv => whnf
              refine And.intro (by with_reducible rfl) ?_
              conv => whnf
              refine And.intro (by with_reducible rfl) ?_
              conv => whnf
              refine And.intro (by with_reducible rfl) ?_
              conv => whnf
              refine And.intro (by (simp only [wrap_i64, wrap_u64, wrap_u32, wrap_u16, wrap_u8, maxLen_eq, mmI] at *; omega)) ?_
              exact True.intro
        · replace hc2 := of_decide_eq_false hc2
          conv => whnf
          refine br_r rfl rfl ?_
          conv => whnf
          refine br_r rfl rfl ?_
          conv => whnf
          refine br_r rfl rfl ?_
          conv => whnf
          refine ihl0 (i + 1) _ ?_ ?_ (st_of ?_)
          · (have := lt_at hx; exact ⟨by omega, past_step hIl0.2 hx (by omega)⟩)
          · (simp only [map_rows] at *; omega)
          · conv => whnf
            refine And.intro (by with_reducible rfl) ?_
            conv => whnf
            refine And.intro (by with_reducible rfl) ?_
            conv => whnf
            refine And.intro (by with_reducible rfl) ?_
            conv => whnf
            refine And.intro (by with_reducible rfl) ?_
            conv => whnf
            refine And.intro (by (simp only [wrap_i64, wrap_u64, wrap_u32, wrap_u16, wrap_u8, maxLen_eq, mmI] at *; omega)) ?_
            exact True.intro
    · replace hc0 := of_decide_eq_false hc0
      conv => whnf
      refine AV.of_eqv ?_
      conv => whnf
      refine And.intro (by (exact past_yes hIl0.2 (by simp only [map_rows] at *; omega))) ?_
      exact True.intro
end Go.Proofs.Ytkcdeefnkbbacaa

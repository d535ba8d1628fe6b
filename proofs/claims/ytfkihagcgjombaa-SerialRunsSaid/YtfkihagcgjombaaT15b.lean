/- What is missing; runs by the document. -/
import Derived.Test.YtfkihagcgjombaaT15
set_option maxRecDepth 100000
set_option linter.unusedSimpArgs false
set_option linter.unusedVariables false
namespace Go.Proofs.Ytfkihagcgjombaa
open Go.RowKit
set_option maxHeartbeats 4000000
abbrev rtN (x : Int) : Prop := 0 ≤ x ∧ x ≤ 65535
def topI (l : List Int) : Int := l.foldl (fun t x => if rtN x then max t x else t) (-1)
def b1 (b : Bool) : List AV := [.bool b]
def thB (n : Int) (l : List Int) : List Bool := (List.range 8).map fun (k : Nat) => l.any fun x => decide (rtN x ∧ x = n + k)
theorem top_at {l : List Int} {i : Nat} {x : Int} (hx : l[i]? = some x) : topI (l.take (i + 1)) = if rtN x then max (topI (l.take i)) x else topI (l.take i) := by
  unfold topI; rw [take_at hx, List.foldl_append]; rfl
theorem th_len (n : Int) (l : List Int) : (thB n l).length = 8 := by unfold thB; simp
theorem th_get {n : Int} {l : List Int} {k : Nat} (hk : k < 8) : (thB n l)[k]? = some (l.any fun x => decide (rtN x ∧ x = n + k)) := by
  unfold thB; rw [List.getElem?_map, List.getElem?_range hk]; rfl
theorem th_set {n : Int} {l : List Int} {i : Nat} {x : Int} (hx : l[i]? = some x) (hr : rtN x) (h0 : n ≤ x) (h7 : x - n ≤ 7) : ((thB n (l.take i)).map b1).set (0 + (x - n).toNat) (b1 true) = (thB n (l.take (i + 1))).map b1 := by
  rw [Nat.zero_add, ← List.map_set]
  congr 1
  apply List.ext_getElem?
  intro j
  by_cases hj : j < 8
  · rw [th_get hj]
    by_cases e : (x - n).toNat = j
    · rw [e, List.getElem?_set_self (by rw [th_len]; exact hj)]
      congr 1
      symm
      rw [List.any_eq_true]
      exact ⟨x, by rw [take_at hx]; simp, decide_eq_true ⟨hr, by omega⟩⟩
    · rw [List.getElem?_set_ne e, th_get hj, take_at hx, List.any_append]
      congr 1
      have : (([x] : List Int).any fun y => decide (rtN y ∧ y = n + j)) = false := by simp; omega
      rw [this, Bool.or_false]
  · rw [List.getElem?_eq_none (by rw [List.length_set, th_len]; omega), List.getElem?_eq_none (by rw [th_len]; omega)]
theorem th_skip {n : Int} {l : List Int} {i : Nat} {x : Int} (hx : l[i]? = some x) (h : ¬ (rtN x ∧ n ≤ x ∧ x - n ≤ 7)) : thB n (l.take i) = thB n (l.take (i + 1)) := by
  apply List.ext_getElem?
  intro j
  by_cases hj : j < 8
  · rw [th_get hj, th_get hj, take_at hx, List.any_append]
    congr 1
    have : (([x] : List Int).any fun y => decide (rtN y ∧ y = n + j)) = false := by
      rw [List.any_cons, List.any_nil, Bool.or_false]
      exact decide_eq_false (by omega)
    rw [this, Bool.or_false]
  · rw [List.getElem?_eq_none (by rw [th_len]; omega), List.getElem?_eq_none (by rw [th_len]; omega)]
def msP (n : Int) (l : List Int) (j : Nat) : Bool := decide (n + j < topI l) && !(l.any fun x => decide (rtN x ∧ x = n + j))
def msI (n : Int) (l : List Int) (k : Nat) : List Int := ((List.range k).filter (msP n l)).map fun (j : Nat) => n + j
def missI (n : Int) (l : List Int) : List Int := if rtN n then msI n l 8 else []
theorem ms_succ (n : Int) (l : List Int) (k : Nat) : msI n l (k + 1) = msI n l k ++ if msP n l k then [n + (k : Int)] else [] := by
  unfold msI
  rw [List.range_succ, List.filter_append, List.map_append]
  congr 1
  by_cases h : msP n l k = true
  · rw [List.filter_cons_of_pos h, if_pos h]; rfl
  · rw [List.filter_cons_of_neg h, if_neg h]; rfl
theorem ms_len (n : Int) (l : List Int) (k : Nat) : (msI n l k).length ≤ k := by
  unfold msI
  rw [List.length_map]
  have := List.length_filter_le (msP n l) (List.range k)
  rw [List.length_range] at this
  exact this
theorem ms_stop {n : Int} {l : List Int} {k : Nat} (h : topI l ≤ n + k) : ∀ m, msI n l (k + m) = msI n l k
  | 0 => rfl
  | m + 1 => by
    rw [← Nat.add_assoc, ms_succ, ms_stop h m]
    have : msP n l (k + m) = false := by unfold msP; rw [decide_eq_false (by omega)]; rfl
    rw [this]; simp
theorem ms_end {n : Int} {l : List Int} {k : Nat} (hk : k ≤ 8) (h : 7 < k ∨ topI l ≤ n + k) : msI n l k = msI n l 8 := by
  rcases h with h | h
  · rw [show k = 8 by omega]
  · rw [← ms_stop h (8 - k), show k + (8 - k) = 8 by omega]
theorem th_b {n : Int} {l : List Int} {k : Nat} {b : Bool} (hb : (thB n l)[0 + k]? = some b) (hk : k < 8) : b = l.any fun x => decide (rtN x ∧ x = n + k) := by
  rw [Nat.zero_add, th_get hk] at hb; exact (Option.some.inj hb).symm
theorem ms_yes {n : Int} {l : List Int} {k : Nat} {b : Bool} (hb : (thB n l)[0 + k]? = some b) (hk : k < 8) (ht : n + k < topI l) (h : b = false) : (msI n l k).map i1 ++ [[.int .i64 (n + (k : Int))]] = (msI n l (k + 1)).map i1 := by
  have e := th_b hb hk
  rw [h] at e
  rw [ms_succ, if_pos (by unfold msP; rw [decide_eq_true ht, ← e]; rfl), List.map_append]; rfl
theorem ms_no {n : Int} {l : List Int} {k : Nat} {b : Bool} (hb : (thB n l)[0 + k]? = some b) (hk : k < 8) (h : b = true) : (msI n l k).map i1 = (msI n l (k + 1)).map i1 := by
  have e := th_b hb hk
  rw [h] at e
  rw [ms_succ, if_neg (by unfold msP; rw [← e]; simp), List.append_nil]
theorem top_b (l : List Int) : -1 ≤ topI l ∧ topI l ≤ 65535 := by
  have key : ∀ (l : List Int) (t : Int), -1 ≤ t → t ≤ 65535 → -1 ≤ l.foldl (fun t x => if rtN x then max t x else t) t ∧ l.foldl (fun t x => if rtN x then max t x else t) t ≤ 65535 := by
    intro l
    induction l with
    | nil => intro t h1 h2; exact ⟨h1, h2⟩
    | cons x l ih =>
      intro t h1 h2
      rw [List.foldl_cons]
      split
      · exact ih _ (by omega) (by omega)
      · exact ih _ h1 h2
  exact key l (-1) (by omega) (by omega)
theorem missing_good (n : Int) (l : List Int) (hl : l.length ≤ 1000000) : Good Try.prog 14 [.int .i64 n, .sl .sh 1 (l.map i1)] (.sl .own 1 ((missI n l).map i1)) := by
  have htb := top_b l
  by_cases hn : rtN n
  · rw [show missI n l = msI n l 8 from if_pos hn]
    apply good_at ak14 rfl rfl rfl
    conv => whnf
    refine ⟨_, sright_good _, ?_⟩
    conv => whnf
    refine And.intro (fun hc0 => ?_) (fun hc0 => ?_)
    · replace hc0 := of_decide_eq_false (Bool.not_eq_true' _ |>.mp hc0)
      contradiction
    · replace hc0 := of_decide_eq_true (Bool.not_eq_false' _ |>.mp hc0)
      conv => whnf
      refine loop_at (α := Nat) [] (fun i => [(17, .int .i64 (i : Int)), (5, .int .i64 (topI (l.take i)))]) (fun i => [(0, some ⟨false, 1, (thB n (l.take i)).map b1⟩)]) (fun i => i ≤ l.length) (fun i => l.length - i) (0) (st_of ?_) ?_ (by rintro i _; rfl) ?_
      · conv => whnf
        refine And.intro (by with_reducible rfl) ?_
        conv => whnf
        refine And.intro (by exact rfl) ?_
        conv => whnf
        refine And.intro (by with_reducible rfl) ?_
        refine And.intro (by with_reducible rfl) ?_
        conv => whnf
        refine And.intro (by with_reducible rfl) ?_
        conv => whnf
        refine And.intro (by with_reducible rfl) ?_
        conv => whnf
        refine And.intro (by decide) ?_
        conv => whnf
        refine And.intro (by exact rfl) ?_
        exact True.intro
      · omega
      · rintro i nextl0 hIl0 ihl0
        try dsimp only at hIl0
        conv => whnf
        refine And.intro (fun hc1 => ?_) (fun hc1 => ?_)
        · replace hc1 := of_decide_eq_true hc1
          conv => whnf
          refine And.intro (by omega) ?_
          refine ex_row (l := l) ?_ fun x hx => ?_
          · (simp only [map_rows] at *; omega)
          · simp only [toNat_ofNat] at hx
            conv => whnf
            refine ⟨_, sright_good _, ?_⟩
            conv => whnf
            refine And.intro (fun hc3 => ?_) (fun hc3 => ?_)
            · replace hc3 := of_decide_eq_false (Bool.not_eq_true' _ |>.mp hc3)
              conv => whnf
              refine ihl0 (i + 1) _ ?_ ?_ (st_of ?_)
              · (simp only [map_rows] at *; omega)
              · (simp only [map_rows] at *; omega)
              · conv => whnf
                refine And.intro (by with_reducible rfl) ?_
                conv => whnf
                refine And.intro (by (rw [top_at hx, if_neg (by assumption)])) ?_
                conv => whnf
                refine And.intro (by with_reducible rfl) ?_
                refine And.intro (by with_reducible rfl) ?_
                conv => whnf
                refine And.intro (by with_reducible rfl) ?_
                conv => whnf
                refine And.intro (by with_reducible rfl) ?_
                conv => whnf
                refine And.intro (by (simp only [wrap_i64, wrap_u64, wrap_u32, wrap_u16, wrap_u8, maxLen_eq, mmI] at *; omega)) ?_
                conv => whnf
                refine And.intro (by (rw [th_skip hx (fun h => absurd h.1 (by assumption))])) ?_
                exact True.intro
            · replace hc3 := of_decide_eq_true (Bool.not_eq_false' _ |>.mp hc3)
              conv => whnf
              refine And.intro (fun hc4 => ?_) (fun hc4 => ?_)
              · replace hc4 := of_decide_eq_true hc4
                conv => whnf
                refine br_l rfl rfl ?_
                conv => whnf
                refine br_l rfl rfl ?_
                conv => whnf
                refine And.intro (fun hc5 => ?_) (fun hc5 => ?_)
                · replace hc5 := of_decide_eq_true hc5
                  conv => whnf
                  refine And.intro (by assumption) ?_
                  refine And.intro (by omega) ?_
                  conv => whnf
                  refine ex_row (l := thB n (List.take i l)) ?_ fun b hb => ?_
                  · (rw [th_len]; omega)
                  · conv => whnf
                    refine ihl0 (i + 1) _ ?_ ?_ (st_of ?_)
                    · (simp only [map_rows] at *; omega)
                    · (simp only [map_rows] at *; omega)
                    · conv => whnf
                      refine And.intro (by with_reducible rfl) ?_
                      conv => whnf
                      refine And.intro (by (rw [top_at hx, if_pos (by assumption)]; rfl)) ?_
                      conv => whnf
                      refine And.intro (by with_reducible rfl) ?_
                      refine And.intro (by with_reducible rfl) ?_
                      conv => whnf
                      refine And.intro (by with_reducible rfl) ?_
                      conv => whnf
                      refine And.intro (by with_reducible rfl) ?_
                      conv => whnf
                      refine And.intro (by (simp only [wrap_i64, wrap_u64, wrap_u32, wrap_u16, wrap_u8, maxLen_eq, mmI] at *; omega)) ?_
                      conv => whnf
                      refine And.intro (by (rw [show IntKind.i64.wrap (x - n) = x - n by rw [wrap_i64]; omega]; exact th_set hx (by assumption) (by simp only [wrap_i64] at *; omega) (by simp only [wrap_i64] at *; omega))) ?_
                      exact True.intro
                · replace hc5 := of_decide_eq_false hc5
                  conv => whnf
                  refine ihl0 (i + 1) _ ?_ ?_ (st_of ?_)
                  · (simp only [map_rows] at *; omega)
                  · (simp only [map_rows] at *; omega)
                  · conv => whnf
                    refine And.intro (by with_reducible rfl) ?_
                    conv => whnf
                    refine And.intro (by (rw [top_at hx, if_pos (by assumption)]; rfl)) ?_
                    conv => whnf
                    refine And.intro (by with_reducible rfl) ?_
                    refine And.intro (by with_reducible rfl) ?_
                    conv => whnf
                    refine And.intro (by with_reducible rfl) ?_
                    conv => whnf
                    refine And.intro (by with_reducible rfl) ?_
                    conv => whnf
                    refine And.intro (by (simp only [wrap_i64, wrap_u64, wrap_u32, wrap_u16, wrap_u8, maxLen_eq, mmI] at *; omega)) ?_
                    conv => whnf
                    refine And.intro (by (rw [th_skip hx (fun h => by have := h.2; simp only [wrap_i64] at *; omega)])) ?_
                    exact True.intro
              · replace hc4 := of_decide_eq_false hc4
                conv => whnf
                refine br_r rfl rfl ?_
                conv => whnf
                refine br_r rfl rfl ?_
                conv => whnf
                refine br_r rfl rfl ?_
                conv => whnf
                refine ihl0 (i + 1) _ ?_ ?_ (st_of ?_)
                · (simp only [map_rows] at *; omega)
                · (simp only [map_rows] at *; omega)
                · conv => whnf
                  refine And.intro (by with_reducible rfl) ?_
                  conv => whnf
                  refine And.intro (by (rw [top_at hx, if_pos (by assumption)]; rfl)) ?_
                  conv => whnf
                  refine And.intro (by with_reducible rfl) ?_
                  refine And.intro (by with_reducible rfl) ?_
                  conv => whnf
                  refine And.intro (by with_reducible rfl) ?_
                  conv => whnf
                  refine And.intro (by with_reducible rfl) ?_
                  conv => whnf
                  refine And.intro (by (simp only [wrap_i64, wrap_u64, wrap_u32, wrap_u16, wrap_u8, maxLen_eq, mmI] at *; omega)) ?_
                  conv => whnf
                  refine And.intro (by (rw [th_skip hx (fun h => by have := h.2; simp only [wrap_i64] at *; omega)])) ?_
                  exact True.intro
        · replace hc1 := of_decide_eq_false hc1
          conv => whnf
          refine jump_at (α := Nat) [] (fun k => [(11, .int .i64 (k : Int)), (10, .sl .own 1 ((msI n l k).map i1)), (5, .int .i64 (topI l))]) (fun k => [(0, some ⟨false, 1, (thB n l).map b1⟩)]) (fun k => k ≤ 8) (fun k => 8 - k) (0) (st_of ?_) ?_ (by rintro k _; rfl) ?_
          · conv => whnf
            refine And.intro (by with_reducible rfl) ?_
            conv => whnf
            refine And.intro (by (rw [take_end (by simp only [map_rows] at *; omega)])) ?_
            conv => whnf
            refine And.intro (by with_reducible rfl) ?_
            refine And.intro (by with_reducible rfl) ?_
            conv => whnf
            refine And.intro (by exact rfl) ?_
            conv => whnf
            refine And.intro (by decide) ?_
            conv => whnf
            refine And.intro (by (rw [take_end (by simp only [map_rows] at *; omega)])) ?_
            exact True.intro
          · decide
          · rintro k nextj0 hIj0 ihj0
            try dsimp only at hIj0
            conv => whnf
            refine And.intro (fun hc7 => ?_) (fun hc7 => ?_)
            · replace hc7 := of_decide_eq_false hc7
              conv => whnf
              refine br_l rfl rfl ?_
              conv => whnf
              refine br_l rfl rfl ?_
              conv => whnf
              refine br_l rfl rfl ?_
              conv => whnf
              refine br_l rfl rfl ?_
              conv => whnf
              refine br_r rfl rfl ?_
              conv => whnf
              refine And.intro (fun hc8 => ?_) (fun hc8 => ?_)
              · replace hc8 := of_decide_eq_true hc8
                conv => whnf
                refine AV.of_eqv ?_
                conv => whnf
                refine And.intro (by (rw [ms_end hIj0 (by simp only [wrap_i64] at *; omega)])) ?_
                exact True.intro
              · replace hc8 := of_decide_eq_false hc8
                conv => whnf
                refine And.intro (by omega) ?_
                refine And.intro (by omega) ?_
                conv => whnf
                refine ex_row (l := thB n l) ?_ fun b hb => ?_
                · (rw [th_len]; omega)
                · simp only [toNat_ofNat] at hb
                  conv => whnf
                  refine And.intro (fun hc10 => ?_) (fun hc10 => ?_)
                  · simp only [Bool.not_eq_true', Bool.not_eq_false', Bool.and_eq_true, Bool.and_eq_false_imp, Bool.or_eq_true, Bool.or_eq_false_iff, Bool.and_true, Bool.true_and, Bool.not_true, Bool.not_false, decide_eq_true_eq, decide_eq_false_iff_not, Bool.decide_and] at hc10
                    conv => whnf
                    refine And.intro (by (simp; done)) ?_
                    refine And.intro (by (have := ms_len n l k; simp only [map_rows, maxLen_eq, List.length_cons, List.length_nil] at *; omega)) ?_
                    refine And.intro (by (have := ms_len n l k; simp only [map_rows, maxLen_eq, List.length_cons, List.length_nil] at *; omega)) ?_
                    conv => whnf
                    refine ihj0 (k + 1) _ ?_ ?_ (st_of ?_)
                    · omega
                    · omega
                    · conv => whnf
                      refine And.intro (by with_reducible rfl) ?_
                      conv => whnf
                      refine And.intro (by with_reducible rfl) ?_
                      conv => whnf
                      refine And.intro (by with_reducible rfl) ?_
                      refine And.intro (by with_reducible rfl) ?_
                      conv => whnf
                      refine And.intro (by (rw [show IntKind.i64.wrap (n + (k : Int)) = n + k by rw [wrap_i64]; omega]; exact ms_yes hb (by omega) (by simp only [wrap_i64] at *; omega) (by assumption))) ?_
                      conv => whnf
                      refine And.intro (by (simp only [wrap_i64, wrap_u64, wrap_u32, wrap_u16, wrap_u8, maxLen_eq, mmI] at *; omega)) ?_
                      conv => whnf
                      refine And.intro (by with_reducible rfl) ?_
                      exact True.intro
                  · simp only [Bool.not_eq_true', Bool.not_eq_false', Bool.and_eq_true, Bool.and_eq_false_imp, Bool.or_eq_true, Bool.or_eq_false_iff, Bool.and_true, Bool.true_and, Bool.not_true, Bool.not_false, decide_eq_true_eq, decide_eq_false_iff_not, Bool.decide_and] at hc10
                    conv => whnf
                    refine ihj0 (k + 1) _ ?_ ?_ (st_of ?_)
                    · omega
                    · omega
                    · conv => whnf
                      refine And.intro (by with_reducible rfl) ?_
                      conv => whnf
                      refine And.intro (by with_reducible rfl) ?_
                      conv => whnf
                      refine And.intro (by with_reducible rfl) ?_
                      refine And.intro (by with_reducible rfl) ?_
                      conv => whnf
                      refine And.intro (by (exact ms_no hb (by omega) (by assumption))) ?_
                      conv => whnf
                      refine And.intro (by (simp only [wrap_i64, wrap_u64, wrap_u32, wrap_u16, wrap_u8, maxLen_eq, mmI] at *; omega)) ?_
                      conv => whnf
                      refine And.intro (by with_reducible rfl) ?_
                      exact True.intro
            · replace hc7 := of_decide_eq_true hc7
              conv => whnf
              refine br_r rfl rfl ?_
              conv => whnf
              refine br_r rfl rfl ?_
              conv => whnf
              refine br_r rfl rfl ?_
              conv => whnf
              refine br_r rfl rfl ?_
              conv => whnf
              refine br_l rfl rfl ?_
              conv => whnf
              refine br_l rfl rfl ?_
              conv => whnf
              refine AV.of_eqv ?_
              conv => whnf
              refine And.intro (by (rw [ms_end hIj0 (by simp only [wrap_i64] at *; omega)])) ?_
              exact True.intro
  · rw [show missI n l = [] from if_neg hn]
    apply good_at ak14 rfl rfl rfl
    conv => whnf
    refine ⟨_, sright_good _, ?_⟩
    conv => whnf
    refine And.intro (fun hc0 => ?_) (fun hc0 => ?_)
    · replace hc0 := of_decide_eq_false (Bool.not_eq_true' _ |>.mp hc0)
      conv => whnf
      refine AV.of_eqv ?_
      conv => whnf
      refine And.intro (by decide) ?_
      exact True.intro
    · replace hc0 := of_decide_eq_true (Bool.not_eq_false' _ |>.mp hc0)
      contradiction
def pastB (l : List Int) (m : Int) : Bool := !(l.any fun x => decide (m < x ∧ rtN x))
theorem past_no {l : List Int} {m x : Int} {i : Nat} (hx : l[i]? = some x) (h1 : m < x) (h2 : rtN x) : false = pastB l m := by
  unfold pastB
  rw [List.any_eq_true.2 ⟨x, List.mem_of_getElem? hx, decide_eq_true ⟨h1, h2⟩⟩]; rfl
theorem past_step {l : List Int} {m x : Int} {i : Nat} (h : ((l.take i).any fun x => decide (m < x ∧ rtN x)) = false) (hx : l[i]? = some x) (hn : ¬ (m < x ∧ rtN x)) : ((l.take (i + 1)).any fun x => decide (m < x ∧ rtN x)) = false := by
  rw [take_at hx, List.any_append, h, List.any_cons, List.any_nil, decide_eq_false hn]; rfl
theorem past_yes {l : List Int} {m : Int} {i : Nat} (h : ((l.take i).any fun x => decide (m < x ∧ rtN x)) = false) (hi : ¬ i < l.length) : true = pastB l m := by
  rw [take_end hi] at h; unfold pastB; rw [h]; rfl
theorem past_good (l : List Int) (m : Int) (hl : l.length ≤ 1000000) : Good Try.prog 18 [.sl .sh 1 (l.map i1), .int .i64 m] (.bool (pastB l m)) := by
  apply good_at ak18 rfl rfl rfl
  conv => whnf
  refine loop_at (α := Nat) [] (fun i => [(9, .int .i64 (i : Int))]) (fun i => []) (fun i => i ≤ l.length ∧ ((l.take i).any fun x => decide (m < x ∧ rtN x)) = false) (fun i => l.length - i) (0) (st_of ?_) ?_ (by rintro i _; rfl) ?_
  · conv => whnf
    refine And.intro (by with_reducible rfl) ?_
    conv => whnf
    refine And.intro (by with_reducible rfl) ?_
    conv => whnf
    refine And.intro (by with_reducible rfl) ?_
    conv => whnf
    refine And.intro (by decide) ?_
    exact True.intro
  · (exact ⟨Nat.zero_le _, rfl⟩)
  · rintro i nextl0 hIl0 ihl0
    try dsimp only at hIl0
    conv => whnf
    refine And.intro (fun hc0 => ?_) (fun hc0 => ?_)
    · replace hc0 := of_decide_eq_true hc0
      conv => whnf
      refine And.intro (by omega) ?_
      refine ex_row (l := l) ?_ fun x hx => ?_
      · (simp only [map_rows] at *; omega)
      · simp only [toNat_ofNat] at hx
        conv => whnf
        refine And.intro (fun hc2 => ?_) (fun hc2 => ?_)
        · replace hc2 := of_decide_eq_true hc2
          conv => whnf
          refine br_l rfl rfl ?_
          conv => whnf
          refine ⟨_, rsright_good _, ?_⟩
          conv => whnf
          refine br_l rfl rfl ?_
          conv => whnf
          refine And.intro (fun hc3 => ?_) (fun hc3 => ?_)
          · replace hc3 := of_decide_eq_true hc3
            conv => whnf
            refine AV.of_eqv ?_
            conv => whnf
            refine And.intro (by (exact past_no hx (by assumption) (by assumption))) ?_
            exact True.intro
          · replace hc3 := of_decide_eq_false hc3
            conv => whnf
            refine ihl0 (i + 1) _ ?_ ?_ (st_of ?_)
            · (have := lt_at hx; exact ⟨by omega, past_step hIl0.2 hx (by omega)⟩)
            · (simp only [map_rows] at *; omega)
            · conv => whnf
              refine And.intro (by with_reducible rfl) ?_
              conv => whnf
              refine And.intro (by with_reducible rfl) ?_
              conv => whnf
              refine And.intro (by with_reducible rfl) ?_
              conv => whnf
              refine And.intro (by (simp only [wrap_i64, wrap_u64, wrap_u32, wrap_u16, wrap_u8, maxLen_eq, mmI] at *; omega)) ?_
              exact True.intro
        · replace hc2 := of_decide_eq_false hc2
          conv => whnf
          refine br_r rfl rfl ?_
          conv => whnf
          refine br_r rfl rfl ?_
          conv => whnf
          refine br_r rfl rfl ?_
          conv => whnf
          refine ihl0 (i + 1) _ ?_ ?_ (st_of ?_)
          · (have := lt_at hx; exact ⟨by omega, past_step hIl0.2 hx (by omega)⟩)
          · (simp only [map_rows] at *; omega)
          · conv => whnf
            refine And.intro (by with_reducible rfl) ?_
            conv => whnf
            refine And.intro (by with_reducible rfl) ?_
            conv => whnf
            refine And.intro (by with_reducible rfl) ?_
            conv => whnf
            refine And.intro (by (simp only [wrap_i64, wrap_u64, wrap_u32, wrap_u16, wrap_u8, maxLen_eq, mmI] at *; omega)) ?_
            exact True.intro
    · replace hc0 := of_decide_eq_false hc0
      conv => whnf
      refine AV.of_eqv ?_
      conv => whnf
      refine And.intro (by (exact past_yes hIl0.2 (by simp only [map_rows] at *; omega))) ?_
      exact True.intro
/-- the numbers of a run -/
def rng (p : Int × Int) : List Int := if rtN p.1 ∧ rtN p.2 then (List.range (p.2 + 1 - p.1).toNat).map fun (k : Nat) => p.1 + k else []
def unr (l : List (Int × Int)) (M : Nat) : List Int := (l.flatMap rng).take M
def uo (l : List (Int × Int)) (M i : Nat) : List Int := ((l.take i).flatMap rng).take M
def uz (l : List (Int × Int)) (M i : Nat) (p : Int × Int) (k : Nat) : List Int := ((l.take i).flatMap rng ++ (rng p).take k).take M
theorem take_full {A B : List Int} {M : Nat} (h : M ≤ (A.take M).length) : (A ++ B).take M = A.take M := by
  rw [List.length_take] at h
  exact List.take_append_of_le_length (by omega)
section
variable {l : List (Int × Int)} {M i k : Nat} {p : Int × Int}
theorem uo_end (h : ¬ i < l.length) : uo l M i = unr l M := by unfold uo unr; rw [show l.take i = l from List.take_of_length_le (by omega)]
theorem uo_full (h : M ≤ (uo l M i).length) : uo l M i = unr l M := by
  unfold uo unr at *
  conv => rhs; rw [← List.take_append_drop i l, List.flatMap_append]
  exact (take_full h).symm
theorem fm_at (hp : l[i]? = some p) : (l.take (i + 1)).flatMap rng = (l.take i).flatMap rng ++ rng p := by
  rw [take_at hp, List.flatMap_append]; simp
theorem uz_start : uz l M i p 0 = uo l M i := by unfold uz uo; simp
theorem uz_done (hp : l[i]? = some p) (h : (rng p).length ≤ k) : uz l M i p k = uo l M (i + 1) := by
  unfold uz uo; rw [fm_at hp, List.take_of_length_le h]
theorem uz_full (hp : l[i]? = some p) (h : M ≤ (uz l M i p k).length) : uz l M i p k = uo l M (i + 1) := by
  unfold uz uo at *
  rw [fm_at hp]
  conv => rhs; rw [← List.take_append_drop k (rng p), ← List.append_assoc]
  exact (take_full h).symm
theorem rng_len (h1 : rtN p.1) (h2 : rtN p.2) : (rng p).length = (p.2 + 1 - p.1).toNat := by
  unfold rng; rw [if_pos ⟨h1, h2⟩]; simp
theorem rng_at (h1 : rtN p.1) (h2 : rtN p.2) (h : k < (rng p).length) : (rng p)[k]? = some (p.1 + k) := by
  rw [rng_len h1 h2] at h
  unfold rng; rw [if_pos ⟨h1, h2⟩, List.getElem?_map, List.getElem?_range h]; rfl
theorem uz_step (h1 : rtN p.1) (h2 : rtN p.2) (hl : (uz l M i p k).length < M) (h : k < (rng p).length) : uz l M i p (k + 1) = uz l M i p k ++ [p.1 + (k : Int)] := by
  unfold uz at *
  rw [List.length_take] at hl
  rw [take_at (rng_at h1 h2 h), ← List.append_assoc]
  have e : ((l.take i).flatMap rng ++ (rng p).take k).take M = (l.take i).flatMap rng ++ (rng p).take k := List.take_of_length_le (by omega)
  rw [e]
  exact List.take_of_length_le (by simp only [List.length_append, List.length_singleton] at *; omega)
theorem uo_len : (uo l M i).length ≤ M := by unfold uo; rw [List.length_take]; omega
theorem uz_len : (uz l M i p k).length ≤ M := by unfold uz; rw [List.length_take]; omega
theorem uo_skip (hp : l[i]? = some p) (h : ¬ (rtN p.1 ∧ rtN p.2)) : uo l M (i + 1) = uo l M i := by
  unfold uo; rw [fm_at hp]; unfold rng; rw [if_neg h, List.append_nil]
end
abbrev mM (m : Int) : Nat := (min (max m 0) 1000).toNat
theorem mm_min (m : Int) (n : Nat) : (mmI false m 1000 ≤ (n : Int)) ↔ mM m ≤ n := by unfold mM; simp only [mmI]; omega
theorem mm_max (m : Int) (n : Nat) : ((n : Int) < mmI false (mmI true m 0) 1000) ↔ n < mM m := by unfold mM; simp only [mmI]; omega
theorem mM_le (m : Int) : mM m ≤ 1000 := by unfold mM; omega
section
variable {l : List (Int × Int)} {m : Int} {i k : Nat} {p : Int × Int}
theorem uz_next (h1 : rtN p.1) (h2 : rtN p.2) (h4 : p.1 + (k : Int) ≤ p.2) (h5 : (((uz l (mM m) i p k).map i1).length : Int) < mmI false (mmI true m 0) 1000) : (uz l (mM m) i p k).map i1 ++ [[.int .i64 (p.1 + (k : Int))]] = (uz l (mM m) i p (k + 1)).map i1 := by
  rw [List.length_map, mm_max] at h5
  rw [uz_step h1 h2 h5 (by rw [rng_len h1 h2]; omega), List.map_append]
  rfl
theorem uz_out (hp : l[i]? = some p) (h1 : rtN p.1) (h2 : rtN p.2) (h4 : ¬ p.1 + (k : Int) ≤ p.2) : (uz l (mM m) i p k).map i1 = (uo l (mM m) (i + 1)).map i1 := by
  rw [uz_done hp (by rw [rng_len h1 h2]; omega)]
theorem uz_room (hp : l[i]? = some p) (h5 : ¬ (((uz l (mM m) i p k).map i1).length : Int) < mmI false (mmI true m 0) 1000) : (uz l (mM m) i p k).map i1 = (uo l (mM m) (i + 1)).map i1 := by
  rw [List.length_map, mm_max] at h5
  rw [uz_full hp (by omega)]
theorem uz_room' (hp : l[i]? = some p) (h5 : mmI false m 1000 ≤ (((uz l (mM m) i p k).map i1).length : Int)) : (uz l (mM m) i p k).map i1 = (uo l (mM m) (i + 1)).map i1 := by
  rw [List.length_map, mm_min] at h5
  rw [uz_full hp (by omega)]
theorem uo_room' (h5 : mmI false m 1000 ≤ (((uo l (mM m) i).map i1).length : Int)) : (uo l (mM m) i).map i1 = (unr l (mM m)).map i1 := by
  rw [List.length_map, mm_min] at h5
  rw [uo_full (by omega)]
theorem uz_next' (h1 : rtN p.1) (h2 : rtN p.2) (h4 : ¬ p.2 < p.1 + (k : Int)) (h5 : ¬ mmI false m 1000 ≤ (((uz l (mM m) i p k).map i1).length : Int)) : (uz l (mM m) i p k).map i1 ++ [[.int .i64 (p.1 + (k : Int))]] = (uz l (mM m) i p (k + 1)).map i1 := by
  rw [List.length_map, mm_min] at h5
  rw [uz_step h1 h2 (by omega) (by rw [rng_len h1 h2]; omega), List.map_append]
  rfl
end
theorem runruns_good (l : List (Int × Int)) (m : Int) (hl : l.length ≤ 1000) : Good Try.prog 13 [.sl .sh 2 (l.map rr), .int .i64 m] (.sl .own 1 ((unr l (mM m)).map i1)) := by
  have hM := mM_le m
  apply good_at ak13 rfl rfl rfl
  conv => whnf
  refine loop_at (α := Nat) [] (fun i => [(11, .int .i64 (i : Int)), (5, .sl .own 1 ((uo l (mM m) i).map i1))]) (fun i => []) (fun i => i ≤ l.length) (fun i => l.length - i) (0) (st_of ?_) ?_ (by rintro i _; rfl) ?_
  · conv => whnf
    refine And.intro (by with_reducible rfl) ?_
    conv => whnf
    refine And.intro (by (simp [uo]; done)) ?_
    conv => whnf
    refine And.intro (by with_reducible rfl) ?_
    conv => whnf
    refine And.intro (by with_reducible rfl) ?_
    conv => whnf
    refine And.intro (by decide) ?_
    exact True.intro
  · omega
  · rintro i nextl0 hIl0 ihl0
    try dsimp only at hIl0
    conv => whnf
    refine And.intro (fun hc0 => ?_) (fun hc0 => ?_)
    · replace hc0 := of_decide_eq_true hc0
      conv => whnf
      refine And.intro (by omega) ?_
      refine ex_row (l := l) ?_ fun p hp => ?_
      · (simp only [map_rows] at *; omega)
      · simp only [toNat_ofNat] at hp
        conv => whnf
        refine And.intro (by decide) ?_
        refine And.intro (by decide) ?_
        conv => whnf
        refine ⟨_, (rsright_good _), ?_⟩
        conv => whnf
        refine And.intro (fun hc2 => ?_) (fun hc2 => ?_)
        · replace hc2 := of_decide_eq_true (Bool.not_eq_false' _ |>.mp hc2)
          conv => whnf
          refine And.intro (by decide) ?_
          refine And.intro (by decide) ?_
          conv => whnf
          refine br_l rfl rfl ?_
          conv => whnf
          refine br_l rfl rfl ?_
          conv => whnf
          refine ⟨_, (rsright_good _), ?_⟩
          conv => whnf
          refine br_l rfl rfl ?_
          conv => whnf
          refine br_r rfl rfl ?_
          conv => whnf
          refine And.intro (fun hc3 => ?_) (fun hc3 => ?_)
          · replace hc3 := of_decide_eq_false (Bool.not_eq_true' _ |>.mp hc3)
            conv => whnf
            refine ihl0 (i + 1) _ ?_ ?_ (st_of ?_)
            · (have := lt_at hp; omega)
            · (have := lt_at hp; omega)
            · conv => whnf
              refine And.intro (by with_reducible rfl) ?_
              conv => whnf
              refine And.intro (by (rw [uo_skip hp (fun h => absurd h.2 (by assumption))])) ?_
              conv => whnf
              refine And.intro (by with_reducible rfl) ?_
              conv => whnf
              refine And.intro (by with_reducible rfl) ?_
              conv => whnf
              refine And.intro (by (simp only [wrap_i64, wrap_u64, wrap_u32, wrap_u16, wrap_u8, maxLen_eq, mmI] at *; omega)) ?_
              exact True.intro
          · replace hc3 := of_decide_eq_true (Bool.not_eq_false' _ |>.mp hc3)
            conv => whnf
            refine And.intro (by decide) ?_
            refine And.intro (by decide) ?_
            conv => whnf
            refine loop_at (α := Nat) [] (fun k => [(8, .int .i64 (p.1 + (k : Int))), (5, .sl .own 1 ((uz l (mM m) i p k).map i1))]) (fun k => []) (fun k => k ≤ (rng p).length) (fun k => (rng p).length - k) (0) (st_of ?_) ?_ (by rintro k _; rfl) ?_
            · conv => whnf
              refine And.intro (by with_reducible rfl) ?_
              conv => whnf
              refine And.intro (by (rw [uz_start])) ?_
              conv => whnf
              refine And.intro (by with_reducible rfl) ?_
              refine And.intro (by with_reducible rfl) ?_
              conv => whnf
              refine And.intro (by omega) ?_
              conv => whnf
              refine And.intro (by with_reducible rfl) ?_
              conv => whnf
              refine And.intro (by with_reducible rfl) ?_
              conv => whnf
              refine And.intro (by with_reducible rfl) ?_
              conv => whnf
              refine And.intro (by with_reducible rfl) ?_
              conv => whnf
              refine And.intro (by with_reducible rfl) ?_
              exact True.intro
            · omega
            · rintro k nextl1 hIl1 ihl1
              try dsimp only at hIl1
              conv => whnf
              refine And.intro (by decide) ?_
              refine And.intro (by decide) ?_
              conv => whnf
              refine And.intro (fun hc4 => ?_) (fun hc4 => ?_)
              · replace hc4 := of_decide_eq_true hc4
                conv => whnf
                refine br_l rfl rfl ?_
                conv => whnf
                refine br_l rfl rfl ?_
                conv => whnf
                refine br_l rfl rfl ?_
                conv => whnf
                refine br_l rfl rfl ?_
                conv => whnf
                refine br_l rfl rfl ?_
                conv => whnf
                refine br_l rfl rfl ?_
                conv => whnf
                refine And.intro (fun hc5 => ?_) (fun hc5 => ?_)
                · replace hc5 := of_decide_eq_true hc5
                  conv => whnf
                  refine And.intro (by (simp [uo]; done)) ?_
                  refine And.intro (by (have := uz_len (l := l) (M := mM m) (i := i) (p := p) (k := k); simp only [map_rows, maxLen_eq, List.length_singleton]; omega)) ?_
                  refine And.intro (by (have := uz_len (l := l) (M := mM m) (i := i) (p := p) (k := k); simp only [map_rows, maxLen_eq, List.length_singleton]; omega)) ?_
                  conv => whnf
                  refine ihl1 (k + 1) _ ?_ ?_ (st_of ?_)
                  · (have := rng_len (by assumption : rtN p.1) (by assumption : rtN p.2); omega)
                  · (have := rng_len (by assumption : rtN p.1) (by assumption : rtN p.2); omega)
                  · conv => whnf
                    refine And.intro (by with_reducible rfl) ?_
                    conv => whnf
                    refine And.intro (by exact uz_next (by assumption) (by assumption) (by assumption) (by assumption)) ?_
                    conv => whnf
                    refine And.intro (by with_reducible rfl) ?_
                    refine And.intro (by with_reducible rfl) ?_
                    conv => whnf
                    refine And.intro (by (have := rng_len (by assumption : rtN p.1) (by assumption : rtN p.2); simp only [wrap_i64]; omega)) ?_
                    conv => whnf
                    refine And.intro (by with_reducible rfl) ?_
                    conv => whnf
                    refine And.intro (by with_reducible rfl) ?_
                    conv => whnf
                    refine And.intro (by with_reducible rfl) ?_
                    conv => whnf
                    refine And.intro (by with_reducible rfl) ?_
                    conv => whnf
                    refine And.intro (by with_reducible rfl) ?_
                    exact True.intro
                · replace hc5 := of_decide_eq_false hc5
                  conv => whnf
                  refine ihl0 (i + 1) _ ?_ ?_ (st_of ?_)
                  · (have := lt_at hp; omega)
                  · (have := lt_at hp; omega)
                  · conv => whnf
                    refine And.intro (by with_reducible rfl) ?_
                    conv => whnf
                    refine And.intro (by exact uz_room hp (by assumption)) ?_
                    conv => whnf
                    refine And.intro (by with_reducible rfl) ?_
                    conv => whnf
                    refine And.intro (by with_reducible rfl) ?_
                    conv => whnf
                    refine And.intro (by (have := rng_len (by assumption : rtN p.1) (by assumption : rtN p.2); simp only [wrap_i64]; omega)) ?_
                    exact True.intro
              · replace hc4 := of_decide_eq_false hc4
                conv => whnf
                refine br_r rfl rfl ?_
                conv => whnf
                refine br_r rfl rfl ?_
                conv => whnf
                refine br_r rfl rfl ?_
                conv => whnf
                refine br_r rfl rfl ?_
                conv => whnf
                refine br_r rfl rfl ?_
                conv => whnf
                refine br_r rfl rfl ?_
                conv => whnf
                refine br_r rfl rfl ?_
                conv => whnf
                refine ihl0 (i + 1) _ ?_ ?_ (st_of ?_)
                · (have := lt_at hp; omega)
                · (have := lt_at hp; omega)
                · conv => whnf
                  refine And.intro (by with_reducible rfl) ?_
                  conv => whnf
                  refine And.intro (by exact uz_out hp (by assumption) (by assumption) (by assumption)) ?_
                  conv => whnf
                  refine And.intro (by with_reducible rfl) ?_
                  conv => whnf
                  refine And.intro (by with_reducible rfl) ?_
                  conv => whnf
                  refine And.intro (by (have := rng_len (by assumption : rtN p.1) (by assumption : rtN p.2); simp only [wrap_i64]; omega)) ?_
                  exact True.intro
        · replace hc2 := of_decide_eq_false (Bool.not_eq_true' _ |>.mp hc2)
          conv => whnf
          refine br_r rfl rfl ?_
          conv => whnf
          refine br_r rfl rfl ?_
          conv => whnf
          refine br_r rfl rfl ?_
          conv => whnf
          refine br_l rfl rfl ?_
          conv => whnf
          refine br_l rfl rfl ?_
          conv => whnf
          refine ihl0 (i + 1) _ ?_ ?_ (st_of ?_)
          · (have := lt_at hp; omega)
          · (have := lt_at hp; omega)
          · conv => whnf
            refine And.intro (by with_reducible rfl) ?_
            conv => whnf
            refine And.intro (by (rw [uo_skip hp (fun h => absurd h.1 (by assumption))])) ?_
            conv => whnf
            refine And.intro (by with_reducible rfl) ?_
            conv => whnf
            refine And.intro (by with_reducible rfl) ?_
            conv => whnf
            refine And.intro (by (simp only [wrap_i64, wrap_u64, wrap_u32, wrap_u16, wrap_u8, maxLen_eq, mmI] at *; omega)) ?_
            exact True.intro
    · replace hc0 := of_decide_eq_false hc0
      conv => whnf
      refine AV.of_eqv ?_
      conv => whnf
      refine And.intro (by (rw [uo_end (by simp only [map_rows] at *; omega)])) ?_
      exact True.intro
theorem top_gt {l : List Int} {m : Int} (hm : -1 ≤ m) : m < topI l ↔ ∃ x ∈ l, rtN x ∧ m < x := by
  have key : ∀ (l : List Int) (t : Int), (m < l.foldl (fun t x => if rtN x then max t x else t) t ↔ m < t ∨ ∃ x ∈ l, rtN x ∧ m < x) := by
    intro l
    induction l with
    | nil => intro t; simp
    | cons y l ih =>
      intro t
      rw [List.foldl_cons, ih]
      by_cases hy : rtN y
      · rw [if_pos hy]
        constructor
        · rintro (h | ⟨x, hx, h⟩)
          · by_cases h1 : m < t
            · exact .inl h1
            · exact .inr ⟨y, by simp, hy, by omega⟩
          · exact .inr ⟨x, by simp [hx], h⟩
        · rintro (h | ⟨x, hx, h⟩)
          · exact .inl (by omega)
          · rcases List.mem_cons.1 hx with rfl | hx
            · exact .inl (by omega)
            · exact .inr ⟨x, hx, h⟩
      · rw [if_neg hy]
        constructor
        · rintro (h | ⟨x, hx, h⟩)
          · exact .inl h
          · exact .inr ⟨x, by simp [hx], h⟩
        · rintro (h | ⟨x, hx, h⟩)
          · exact .inl h
          · rcases List.mem_cons.1 hx with rfl | hx
            · exact absurd h.1 hy
            · exact .inr ⟨x, hx, h⟩
  have := key l (-1)
  unfold topI
  rw [this]
  exact ⟨fun h => h.elim (fun h => by omega) id, .inr⟩
theorem past_top {l : List Int} {m : Int} (hm : -1 ≤ m) : pastB l m = decide (¬ m < topI l) := by
  unfold pastB
  by_cases h : m < topI l
  · obtain ⟨x, hx, h1, h2⟩ := (top_gt hm).1 h
    rw [List.any_eq_true.2 ⟨x, hx, decide_eq_true ⟨h2, h1⟩⟩, decide_eq_false (by simpa using h)]; rfl
  · have : (l.any fun x => decide (m < x ∧ rtN x)) = false := by
      rw [List.any_eq_false]
      intro x hx
      simp only [decide_eq_true_eq]
      exact fun h' => h ((top_gt hm).2 ⟨x, hx, h'.2, h'.1⟩)
    rw [this, decide_eq_true h]; rfl
theorem mem_step {l : List Int} {j : Nat} {x v : Int} (hx : l[j]? = some x) : v ∈ l.take (j + 1) ↔ v ∈ l.take j ∨ v = x := by
  rw [take_at hx, List.mem_append, List.mem_singleton]
theorem mem_a {l : List Int} {j : Nat} {x v w : Int} (hx : l[j]? = some x) (hn : ¬ v ∈ l.take j) (hw : w = v) : decide (x = w) = decide (v ∈ l.take (j + 1)) := by
  subst hw
  refine decide_eq_decide.2 ?_
  rw [mem_step hx]
  exact ⟨fun h => .inr h.symm, fun h => (h.resolve_left hn).symm⟩
theorem mem_b {l : List Int} {j : Nat} {x v : Int} (hx : l[j]? = some x) (hn : v ∈ l.take j) : true = decide (v ∈ l.take (j + 1)) :=
  (decide_eq_true ((mem_step hx).2 (.inl hn))).symm
section
variable {n : Int} {l : List Int} {k j : Nat}
theorem msr_all (h : ¬ (j : Int) < ((l.map i1).length : Nat)) : l.take j = l := List.take_of_length_le (by rw [List.length_map] at h; omega)
theorem msr_any (hn : rtN n) (hk : k < 8) (h2 : ¬ IntKind.i64.wrap (65535 - (k : Int)) < n) : (l.any fun x => decide (rtN x ∧ x = n + k)) = decide (n + (k : Int) ∈ l) := by
  rw [wrap_i64] at h2
  by_cases h : n + (k : Int) ∈ l
  · rw [decide_eq_true h, List.any_eq_true]
    exact ⟨_, h, decide_eq_true ⟨⟨by omega, by omega⟩, rfl⟩⟩
  · rw [decide_eq_false h, List.any_eq_false]
    intro x hx
    simp only [decide_eq_true_eq]
    rintro ⟨_, rfl⟩
    exact h hx
theorem msr_w (hn : rtN n) (hk : k < 8) : IntKind.i64.wrap (n + (k : Int)) = n + k := by rw [wrap_i64]; omega
theorem msr_yes (hn : rtN n) (hk : k < 8) (h2 : ¬ IntKind.i64.wrap (65535 - (k : Int)) < n) (h3 : ¬ (j : Int) < ((l.map i1).length : Nat)) (h6 : ¬ n + (k : Int) ∈ l.take j) (h7 : pastB l (IntKind.i64.wrap (n + (k : Int))) = false) :
    (msI n l k).map i1 ++ [[.int .i64 (IntKind.i64.wrap (n + (k : Int)))]] = (msI n l (k + 1)).map i1 := by
  rw [msr_w hn hk] at *
  rw [past_top (by omega)] at h7
  have h7 := of_decide_eq_false h7
  rw [msr_all h3] at h6
  rw [ms_succ, if_pos (by unfold msP; rw [msr_any hn hk h2, decide_eq_false h6, decide_eq_true (by omega)]; rfl), List.map_append]
  rfl
theorem msr_no (hn : rtN n) (hk : k < 8) (h7 : pastB l (IntKind.i64.wrap (n + (k : Int))) = true) : (msI n l k).map i1 = (msI n l (k + 1)).map i1 := by
  rw [msr_w hn hk, past_top (by omega)] at h7
  have h7 := of_decide_eq_true h7
  rw [ms_succ, if_neg (by unfold msP; rw [decide_eq_false h7]; simp), List.append_nil]
theorem msr_in (hn : rtN n) (hk : k < 8) (h2 : ¬ IntKind.i64.wrap (65535 - (k : Int)) < n) (h6 : n + (k : Int) ∈ l.take j) : (msI n l k).map i1 = (msI n l (k + 1)).map i1 := by
  rw [ms_succ, if_neg (by unfold msP; rw [msr_any hn hk h2, decide_eq_true (List.mem_of_mem_take h6)]; simp), List.append_nil]
end
theorem rmissing_good (n : Int) (l : List Int) (hl : l.length ≤ 1000000) : Good Try.prog 15 [.int .i64 n, .sl .sh 1 (l.map i1)] (.sl .own 1 ((missI n l).map i1)) := by
  have htb := top_b l
  by_cases hn : rtN n
  · rw [show missI n l = msI n l 8 from if_pos hn]
    apply good_at ak15 rfl rfl rfl
    conv => whnf
    refine loop_at (α := Nat) [] (fun k => [(10, .int .i64 (k : Int)), (5, .sl .own 1 ((msI n l k).map i1))]) (fun k => []) (fun k => k ≤ 8) (fun k => 8 - k) (0) (st_of ?_) ?_ (by rintro k _; rfl) ?_
    · conv => whnf
      refine And.intro (by with_reducible rfl) ?_
      conv => whnf
      refine And.intro (by with_reducible rfl) ?_
      conv => whnf
      refine And.intro (by exact rfl) ?_
      conv => whnf
      refine And.intro (by decide) ?_
      exact True.intro
    · decide
    · rintro k nextl0 hIl0 ihl0
      try dsimp only at hIl0
      conv => whnf
      refine And.intro (fun hc0 => ?_) (fun hc0 => ?_)
      · replace hc0 := of_decide_eq_true hc0
        conv => whnf
        refine ⟨_, (rsright_good _), ?_⟩
        conv => whnf
        refine And.intro (fun hc1 => ?_) (fun hc1 => ?_)
        · replace hc1 := of_decide_eq_true (Bool.not_eq_false' _ |>.mp hc1)
          conv => whnf
          refine br_l rfl rfl ?_
          conv => whnf
          refine br_l rfl rfl ?_
          conv => whnf
          refine br_l rfl rfl ?_
          conv => whnf
          refine br_r rfl rfl ?_
          conv => whnf
          refine And.intro (fun hc2 => ?_) (fun hc2 => ?_)
          · replace hc2 := of_decide_eq_true hc2
            conv => whnf
            refine AV.of_eqv ?_
            conv => whnf
            refine And.intro (by (rw [ms_end (k := k) (by omega) (.inr (by simp only [wrap_i64] at *; omega))])) ?_
            exact True.intro
          · replace hc2 := of_decide_eq_false hc2
            conv => whnf
            refine loop_at (α := Nat) [] (fun j => [(7, .bool (decide (n + (k : Int) ∈ l.take j))), (24, .int .i64 (j : Int))]) (fun j => []) (fun j => j ≤ l.length) (fun j => l.length - j) (0) (st_of ?_) ?_ (by rintro j _; rfl) ?_
            · conv => whnf
              refine And.intro (by with_reducible rfl) ?_
              conv => whnf
              refine And.intro (by with_reducible rfl) ?_
              conv => whnf
              refine And.intro (by with_reducible rfl) ?_
              conv => whnf
              refine And.intro (by with_reducible rfl) ?_
              conv => whnf
              refine And.intro (by (simp; done)) ?_
              conv => whnf
              refine And.intro (by with_reducible rfl) ?_
              conv => whnf
              refine And.intro (by with_reducible rfl) ?_
              conv => whnf
              refine And.intro (by with_reducible rfl) ?_
              conv => whnf
              refine And.intro (by decide) ?_
              exact True.intro
            · omega
            · rintro j nextl1 hIl1 ihl1
              try dsimp only at hIl1
              conv => whnf
              refine And.intro (fun hc3 => ?_) (fun hc3 => ?_)
              · replace hc3 := of_decide_eq_true hc3
                conv => whnf
                refine And.intro (by omega) ?_
                refine ex_row (l := l) ?_ fun x hx => ?_
                · (simp only [map_rows] at *; omega)
                · simp only [toNat_ofNat] at hx
                  conv => whnf
                  refine And.intro (fun hc5 => ?_) (fun hc5 => ?_)
                  · replace hc5 := of_decide_eq_false hc5
                    conv => whnf
                    refine br_l rfl rfl ?_
                    conv => whnf
                    refine br_l rfl rfl ?_
                    conv => whnf
                    refine br_l rfl rfl ?_
                    conv => whnf
                    refine br_l rfl rfl ?_
                    conv => whnf
                    refine br_r rfl rfl ?_
                    conv => whnf
                    refine ihl1 (j + 1) _ ?_ ?_ (st_of ?_)
                    · (have := lt_at hx; omega)
                    · (have := lt_at hx; omega)
                    · conv => whnf
                      refine And.intro (by with_reducible rfl) ?_
                      conv => whnf
                      refine And.intro (by with_reducible rfl) ?_
                      conv => whnf
                      refine And.intro (by with_reducible rfl) ?_
                      conv => whnf
                      refine And.intro (by with_reducible rfl) ?_
                      conv => whnf
                      refine And.intro (by exact mem_a hx (by assumption) (msr_w hn (by omega))) ?_
                      conv => whnf
                      refine And.intro (by with_reducible rfl) ?_
                      conv => whnf
                      refine And.intro (by with_reducible rfl) ?_
                      conv => whnf
                      refine And.intro (by with_reducible rfl) ?_
                      conv => whnf
                      refine And.intro (by (have := lt_at hx; simp only [wrap_i64]; omega)) ?_
                      exact True.intro
                  · replace hc5 := of_decide_eq_true hc5
                    conv => whnf
                    refine br_r rfl rfl ?_
                    conv => whnf
                    refine br_r rfl rfl ?_
                    conv => whnf
                    refine br_r rfl rfl ?_
                    conv => whnf
                    refine br_r rfl rfl ?_
                    conv => whnf
                    refine br_l rfl rfl ?_
                    conv => whnf
                    refine ihl1 (j + 1) _ ?_ ?_ (st_of ?_)
                    · (have := lt_at hx; omega)
                    · (have := lt_at hx; omega)
                    · conv => whnf
                      refine And.intro (by with_reducible rfl) ?_
                      conv => whnf
                      refine And.intro (by with_reducible rfl) ?_
                      conv => whnf
                      refine And.intro (by with_reducible rfl) ?_
                      conv => whnf
                      refine And.intro (by with_reducible rfl) ?_
                      conv => whnf
                      refine And.intro (by exact mem_b hx (by assumption)) ?_
                      conv => whnf
                      refine And.intro (by with_reducible rfl) ?_
                      conv => whnf
                      refine And.intro (by with_reducible rfl) ?_
                      conv => whnf
                      refine And.intro (by with_reducible rfl) ?_
                      conv => whnf
                      refine And.intro (by (have := lt_at hx; simp only [wrap_i64]; omega)) ?_
                      exact True.intro
              · replace hc3 := of_decide_eq_false hc3
                conv => whnf
                refine And.intro (fun hc6 => ?_) (fun hc6 => ?_)
                · replace hc6 := of_decide_eq_false (Bool.not_eq_true' _ |>.mp hc6)
                  conv => whnf
                  refine br_l rfl rfl ?_
                  conv => whnf
                  refine br_l rfl rfl ?_
                  conv => whnf
                  refine br_l rfl rfl ?_
                  conv => whnf
                  refine br_l rfl rfl ?_
                  conv => whnf
                  refine ⟨_, (past_good _ _) ?_, ?_⟩
                  · assumption
                  · conv => whnf
                    refine br_l rfl rfl ?_
                    conv => whnf
                    refine br_l rfl rfl ?_
                    conv => whnf
                    refine And.intro (fun hc7 => ?_) (fun hc7 => ?_)
                    · simp only [Bool.not_eq_true', Bool.not_eq_false', Bool.and_eq_true, Bool.and_eq_false_imp, Bool.or_eq_true, Bool.or_eq_false_iff, Bool.and_true, Bool.true_and, Bool.not_true, Bool.not_false, decide_eq_true_eq, decide_eq_false_iff_not, Bool.decide_and] at hc7
                      conv => whnf
                      refine And.intro (by (simp; done)) ?_
                      refine And.intro (by (have := ms_len n l k; simp only [map_rows, maxLen_eq, List.length_singleton]; omega)) ?_
                      refine And.intro (by (have := ms_len n l k; simp only [map_rows, maxLen_eq, List.length_singleton]; omega)) ?_
                      conv => whnf
                      refine ihl0 (k + 1) _ ?_ ?_ (st_of ?_)
                      · omega
                      · omega
                      · conv => whnf
                        refine And.intro (by with_reducible rfl) ?_
                        conv => whnf
                        refine And.intro (by with_reducible rfl) ?_
                        conv => whnf
                        refine And.intro (by exact msr_yes hn (by omega) (by assumption) (by assumption) (by assumption) (by assumption)) ?_
                        conv => whnf
                        refine And.intro (by (simp only [wrap_i64, wrap_u64, wrap_u32, wrap_u16, wrap_u8, maxLen_eq, mmI] at *; omega)) ?_
                        exact True.intro
                    · simp only [Bool.not_eq_true', Bool.not_eq_false', Bool.and_eq_true, Bool.and_eq_false_imp, Bool.or_eq_true, Bool.or_eq_false_iff, Bool.and_true, Bool.true_and, Bool.not_true, Bool.not_false, decide_eq_true_eq, decide_eq_false_iff_not, Bool.decide_and] at hc7
                      conv => whnf
                      refine ihl0 (k + 1) _ ?_ ?_ (st_of ?_)
                      · omega
                      · omega
                      · conv => whnf
                        refine And.intro (by with_reducible rfl) ?_
                        conv => whnf
                        refine And.intro (by with_reducible rfl) ?_
                        conv => whnf
                        refine And.intro (by exact msr_no hn (by omega) (by assumption)) ?_
                        conv => whnf
                        refine And.intro (by (simp only [wrap_i64, wrap_u64, wrap_u32, wrap_u16, wrap_u8, maxLen_eq, mmI] at *; omega)) ?_
                        exact True.intro
                · replace hc6 := of_decide_eq_true (Bool.not_eq_false' _ |>.mp hc6)
                  conv => whnf
                  refine br_r rfl rfl ?_
                  conv => whnf
                  refine br_r rfl rfl ?_
                  conv => whnf
                  refine br_r rfl rfl ?_
                  conv => whnf
                  refine br_r rfl rfl ?_
                  conv => whnf
                  refine br_r rfl rfl ?_
                  conv => whnf
                  refine br_r rfl rfl ?_
                  conv => whnf
                  refine br_r rfl rfl ?_
                  conv => whnf
                  refine ihl0 (k + 1) _ ?_ ?_ (st_of ?_)
                  · omega
                  · omega
                  · conv => whnf
                    refine And.intro (by with_reducible rfl) ?_
                    conv => whnf
                    refine And.intro (by with_reducible rfl) ?_
                    conv => whnf
                    refine And.intro (by exact msr_in hn (by omega) (by assumption) (by assumption)) ?_
                    conv => whnf
                    refine And.intro (by (simp only [wrap_i64, wrap_u64, wrap_u32, wrap_u16, wrap_u8, maxLen_eq, mmI] at *; omega)) ?_
                    exact True.intro
        · replace hc1 := of_decide_eq_false (Bool.not_eq_true' _ |>.mp hc1)
          contradiction
      · replace hc0 := of_decide_eq_false hc0
        conv => whnf
        refine AV.of_eqv ?_
        conv => whnf
        refine And.intro (by (rw [show k = 8 by omega])) ?_
        exact True.intro
  · rw [show missI n l = [] from if_neg hn]
    apply good_at ak15 rfl rfl rfl
    conv => whnf
    refine loop_run 300 ?_
    conv => whnf
    refine ⟨[], ?_⟩
    refine And.intro (by exact rfl) ?_
    conv => whnf
    refine br_l rfl rfl ?_
    conv => whnf
    refine ⟨_, (rsright_good _), ?_⟩
    conv => whnf
    refine And.intro (fun hc0 => ?_) (fun hc0 => ?_)
    · replace hc0 := of_decide_eq_true (Bool.not_eq_false' _ |>.mp hc0)
      contradiction
    · replace hc0 := of_decide_eq_false (Bool.not_eq_true' _ |>.mp hc0)
      conv => whnf
      refine br_r rfl rfl ?_
      conv => whnf
      refine br_r rfl rfl ?_
      conv => whnf
      refine br_r rfl rfl ?_
      conv => whnf
      refine br_l rfl rfl ?_
      conv => whnf
      refine br_l rfl rfl ?_
      conv => whnf
      refine AV.of_eqv ?_
      conv => whnf
      refine And.intro (by decide) ?_
      exact True.intro
theorem rn_le (l : List Int) : (rn l).length ≤ l.length := by have := rn_len l l.length; rwa [List.take_length] at this
section
variable {l s : List Int} {n j : Nat} {p : Int × Int}
theorem T_no (h : ¬ (n : Int) ∈ l) : T (n + 1) l = T n l := by rw [T_succ, if_neg h, List.append_nil]
theorem T_yes (h : (n : Int) ∈ l) : rn (T (n + 1) l) = rstep (rn (T n l)) n := by
  rw [T_succ, if_pos h]; unfold rn; rw [List.foldl_append]; rfl
theorem rr_past (hs : s = S l) (hn : (n : Int) ≤ 65535) (h2 : ¬ (j : Int) < ((l.map i1).length : Nat)) (h5 : ¬ (n : Int) ∈ l.take j) (h7 : pastB l n = true) : T n l = s := by
  rw [hs]
  rw [msr_all h2] at h5
  rw [past_top (by omega)] at h7
  have h7 := of_decide_eq_true h7
  refine (T_take (by omega) fun x hx h1 h3 => ?_).symm
  by_cases hxn : x = n
  · exact h5 (hxn ▸ hx)
  · exact h7 ((top_gt (by omega)).2 ⟨x, hx, ⟨by omega, by omega⟩, by omega⟩)
theorem rr_last (hs : s = S l) (hn : n ≤ 65536) (h : ¬ (n : Int) ≤ 65535) : T n l = s := by
  rw [hs, show n = 65536 by omega]
theorem rr_fin (h : T n l = s) : (((rn (T n l)).map rr).drop 0).take ((rn (T n l)).map rr).length = (rn s).map rr := by
  rw [List.drop_zero, List.take_length, h]
theorem rr_L (hl : l.length ≤ 40) : (rn (T n l)).length ≤ 40 := Nat.le_trans (rn_le _) (Nat.le_trans (T_len n l) hl)
theorem rr_k (hl : l.length ≤ 40) (h : (0 : Int) < (((rn (T n l)).map rr).length : Nat)) : 0 + (IntKind.i64.wrap ((((rn (T n l)).map rr).length : Nat) - 1)).toNat + 1 = (rn (T n l)).length := by
  have := rr_L (n := n) hl
  rw [List.length_map] at *
  rw [wr_n _ (by omega)] at *
  omega
theorem rr_ext (hl : l.length ≤ 40) (hn : (n : Int) ≤ 65535) (hi : (n : Int) ∈ l.take j) (h : (0 : Int) < (((rn (T n l)).map rr).length : Nat)) (hp : (rn (T n l))[0 + (IntKind.i64.wrap ((((rn (T n l)).map rr).length : Nat) - 1)).toNat]? = some p)
    (h5 : p.2 = IntKind.i64.wrap ((n : Int) - 1)) : ((rn (T n l)).map rr).set (0 + (IntKind.i64.wrap ((((rn (T n l)).map rr).length : Nat) - 1)).toNat) [.int .i64 p.1, .int .i64 (n : Int)] = (rn (T (n + 1) l)).map rr := by
  rw [wrap_i64] at h5
  rw [rstep_ext (rr_k hl h) hp (by omega), T_yes (List.mem_of_mem_take hi)]
theorem rr_ext_n (hl : l.length ≤ 40) (hn : (n : Int) ≤ 65535) (hi : (n : Int) ∈ l.take j) (h : (0 : Int) < (((rn (T n l)).map rr).length : Nat)) (hp : (rn (T n l))[0 + (IntKind.i64.wrap ((((rn (T n l)).map rr).length : Nat) - 1)).toNat]? = some p)
    (h5 : p.2 = IntKind.i64.wrap ((n : Int) - 1)) : ((rn (T n l)).map rr).length = ((rn (T (n + 1) l)).map rr).length := by
  rw [← rr_ext hl hn hi h hp h5, List.length_set]
theorem rr_new (hl : l.length ≤ 40) (hn : (n : Int) ≤ 65535) (hi : (n : Int) ∈ l.take j) (h : ¬ (0 : Int) < (((rn (T n l)).map rr).length : Nat) ∨ ((0 : Int) < (((rn (T n l)).map rr).length : Nat) ∧ ∃ p, (rn (T n l))[0 + (IntKind.i64.wrap ((((rn (T n l)).map rr).length : Nat) - 1)).toNat]? = some p ∧ ¬ p.2 = IntKind.i64.wrap ((n : Int) - 1))) :
    (rn (T n l)).map rr ++ [[.int .i64 (n : Int), .int .i64 (n : Int)]] = (rn (T (n + 1) l)).map rr := by
  rw [T_yes (List.mem_of_mem_take hi)]
  refine rstep_new fun q hq => ?_
  rcases h with h | ⟨h, p, hp, h5⟩
  · exfalso
    obtain ⟨pre, e⟩ := last_row hq
    rw [List.length_map, e, List.length_append, List.length_singleton] at h
    omega
  · have := last_at (rr_k hl h) hp
    rw [hq] at this
    cases this
    rw [wrap_i64] at h5
    omega
theorem rr_new_n (hl : l.length ≤ 40) (hn : (n : Int) ≤ 65535) (hi : (n : Int) ∈ l.take j) (h : ¬ (0 : Int) < (((rn (T n l)).map rr).length : Nat) ∨ ((0 : Int) < (((rn (T n l)).map rr).length : Nat) ∧ ∃ p, (rn (T n l))[0 + (IntKind.i64.wrap ((((rn (T n l)).map rr).length : Nat) - 1)).toNat]? = some p ∧ ¬ p.2 = IntKind.i64.wrap ((n : Int) - 1))) :
    ((rn (T n l)).map rr).length + [[AV.int .i64 (n : Int), AV.int .i64 (n : Int)]].length = ((rn (T (n + 1) l)).map rr).length := by
  rw [← rr_new hl hn hi h, List.length_append]
end
theorem rruns_good (l s : List Int) (hl : l.length ≤ 40) (hs : s = S l) : Good Try.prog 11 [.sl .sh 1 (l.map i1)] (.sl .sh 2 ((rn s).map rr)) := by
  apply good_at ak11 rfl rfl rfl
  conv => whnf
  refine loop_at (α := Nat) [] (fun n => [(4, .int .i64 (n : Int)), (3, .bsl 0 2 0 ((rn (T n l)).map rr).length)]) (fun n => [(0, some ⟨false, 2, (rn (T n l)).map rr⟩)]) (fun n => n ≤ 65536) (fun n => 65536 - n) (0) (st_of ?_) ?_ (by rintro n _; rfl) ?_
  · conv => whnf
    refine And.intro (by with_reducible rfl) ?_
    conv => whnf
    refine And.intro (by with_reducible rfl) ?_
    refine And.intro (by exact rfl) ?_
    conv => whnf
    refine And.intro (by decide) ?_
    conv => whnf
    refine And.intro (by exact rfl) ?_
    exact True.intro
  · decide
  · rintro n nextl0 hIl0 ihl0
    try dsimp only at hIl0
    conv => whnf
    refine And.intro (fun hc0 => ?_) (fun hc0 => ?_)
    · replace hc0 := of_decide_eq_true hc0
      conv => whnf
      refine br_l rfl rfl ?_
      conv => whnf
      refine br_l rfl rfl ?_
      conv => whnf
      refine br_l rfl rfl ?_
      conv => whnf
      refine And.intro (fun hc1 => ?_) (fun hc1 => ?_)
      · replace hc1 := of_decide_eq_true hc1
        conv => whnf
        refine loop_at (α := Nat) [] (fun j => [(5, .bool (decide ((n : Int) ∈ l.take j))), (19, .int .i64 (j : Int))]) (fun j => []) (fun j => j ≤ l.length) (fun j => l.length - j) (0) (st_of ?_) ?_ (by rintro j _; rfl) ?_
        · conv => whnf
          refine And.intro (by with_reducible rfl) ?_
          conv => whnf
          refine And.intro (by with_reducible rfl) ?_
          refine And.intro (by with_reducible rfl) ?_
          conv => whnf
          refine And.intro (by with_reducible rfl) ?_
          conv => whnf
          refine And.intro (by (simp; done)) ?_
          conv => whnf
          refine And.intro (by with_reducible rfl) ?_
          conv => whnf
          refine And.intro (by with_reducible rfl) ?_
          conv => whnf
          refine And.intro (by decide) ?_
          conv => whnf
          refine And.intro (by with_reducible rfl) ?_
          exact True.intro
        · omega
        · rintro j nextl1 hIl1 ihl1
          try dsimp only at hIl1
          conv => whnf
          refine And.intro (fun hc2 => ?_) (fun hc2 => ?_)
          · replace hc2 := of_decide_eq_true hc2
            conv => whnf
            refine And.intro (by omega) ?_
            refine ex_row (l := l) ?_ fun x hx => ?_
            · (simp only [map_rows] at *; omega)
            · simp only [toNat_ofNat] at hx
              conv => whnf
              refine And.intro (fun hc4 => ?_) (fun hc4 => ?_)
              · replace hc4 := of_decide_eq_false hc4
                conv => whnf
                refine br_l rfl rfl ?_
                conv => whnf
                refine br_l rfl rfl ?_
                conv => whnf
                refine br_r rfl rfl ?_
                conv => whnf
                refine ihl1 (j + 1) _ ?_ ?_ (st_of ?_)
                · (have := lt_at hx; omega)
                · (have := lt_at hx; omega)
                · conv => whnf
                  refine And.intro (by with_reducible rfl) ?_
                  conv => whnf
                  refine And.intro (by with_reducible rfl) ?_
                  refine And.intro (by with_reducible rfl) ?_
                  conv => whnf
                  refine And.intro (by with_reducible rfl) ?_
                  conv => whnf
                  refine And.intro (by exact mem_a hx (by assumption) rfl) ?_
                  conv => whnf
                  refine And.intro (by with_reducible rfl) ?_
                  conv => whnf
                  refine And.intro (by with_reducible rfl) ?_
                  conv => whnf
                  refine And.intro (by (have := lt_at hx; simp only [wrap_i64]; omega)) ?_
                  conv => whnf
                  refine And.intro (by with_reducible rfl) ?_
                  exact True.intro
              · replace hc4 := of_decide_eq_true hc4
                conv => whnf
                refine br_r rfl rfl ?_
                conv => whnf
                refine br_r rfl rfl ?_
                conv => whnf
                refine br_l rfl rfl ?_
                conv => whnf
                refine ihl1 (j + 1) _ ?_ ?_ (st_of ?_)
                · (have := lt_at hx; omega)
                · (have := lt_at hx; omega)
                · conv => whnf
                  refine And.intro (by with_reducible rfl) ?_
                  conv => whnf
                  refine And.intro (by with_reducible rfl) ?_
                  refine And.intro (by with_reducible rfl) ?_
                  conv => whnf
                  refine And.intro (by with_reducible rfl) ?_
                  conv => whnf
                  refine And.intro (by exact mem_b hx (by assumption)) ?_
                  conv => whnf
                  refine And.intro (by with_reducible rfl) ?_
                  conv => whnf
                  refine And.intro (by with_reducible rfl) ?_
                  conv => whnf
                  refine And.intro (by (have := lt_at hx; simp only [wrap_i64]; omega)) ?_
                  conv => whnf
                  refine And.intro (by with_reducible rfl) ?_
                  exact True.intro
          · replace hc2 := of_decide_eq_false hc2
            conv => whnf
            refine And.intro (fun hc5 => ?_) (fun hc5 => ?_)
            · replace hc5 := of_decide_eq_false (Bool.not_eq_true' _ |>.mp hc5)
              conv => whnf
              refine And.intro (fun hc6 => ?_) (fun hc6 => ?_)
              · replace hc6 := of_decide_eq_false (Bool.not_eq_true' _ |>.mp hc6)
                conv => whnf
                refine br_l rfl rfl ?_
                conv => whnf
                refine br_l rfl rfl ?_
                conv => whnf
                refine ⟨_, (past_good _ _) ?_, ?_⟩
                · omega
                · conv => whnf
                  refine br_l rfl rfl ?_
                  conv => whnf
                  refine And.intro (fun hc7 => ?_) (fun hc7 => ?_)
                  · conv => whnf
                    refine And.intro (by with_reducible rfl) ?_
                    refine And.intro (by with_reducible rfl) ?_
                    refine And.intro (by omega) ?_
                    refine And.intro (by exact rr_flat _) ?_
                    conv => whnf
                    refine AV.of_eqv ?_
                    conv => whnf
                    refine And.intro (by exact rr_fin (rr_past hs (by assumption) (by assumption) (by assumption) (by assumption))) ?_
                    exact True.intro
                  · conv => whnf
                    refine ihl0 (n + 1) _ ?_ ?_ (st_of ?_)
                    · omega
                    · omega
                    · conv => whnf
                      refine And.intro (by with_reducible rfl) ?_
                      conv => whnf
                      refine And.intro (by with_reducible rfl) ?_
                      refine And.intro (by (rw [T_no (by rw [← msr_all (l := l) (by assumption)]; assumption)])) ?_
                      conv => whnf
                      refine And.intro (by (simp only [wrap_i64]; omega)) ?_
                      conv => whnf
                      refine And.intro (by (rw [T_no (by rw [← msr_all (l := l) (by assumption)]; assumption)])) ?_
                      exact True.intro
              · replace hc6 := of_decide_eq_true (Bool.not_eq_false' _ |>.mp hc6)
                contradiction
            · replace hc5 := of_decide_eq_true (Bool.not_eq_false' _ |>.mp hc5)
              conv => whnf
              refine And.intro (fun hc8 => ?_) (fun hc8 => ?_)
              · replace hc8 := of_decide_eq_true hc8
                conv => whnf
                refine br_l rfl rfl ?_
                conv => whnf
                refine br_l rfl rfl ?_
                conv => whnf
                refine br_l rfl rfl ?_
                conv => whnf
                refine br_l rfl rfl ?_
                conv => whnf
                refine And.intro (by (simp only [wrap_i64]; omega)) ?_
                refine And.intro (by decide) ?_
                refine And.intro (by (simp only [wrap_i64]; omega)) ?_
                conv => whnf
                refine br_l rfl rfl ?_
                conv => whnf
                refine And.intro (by decide) ?_
                refine And.intro (by decide) ?_
                conv => whnf
                refine br_l rfl rfl ?_
                conv => whnf
                refine ex_row (l := rn (T n l)) ?_ fun p hp => ?_
                · (have := rr_k (n := n) hl (by assumption); omega)
                · conv => whnf
                  refine br_l rfl rfl ?_
                  conv => whnf
                  refine br_l rfl rfl ?_
                  conv => whnf
                  refine br_l rfl rfl ?_
                  conv => whnf
                  refine br_l rfl rfl ?_
                  conv => whnf
                  refine And.intro (fun hc10 => ?_) (fun hc10 => ?_)
                  · replace hc10 := of_decide_eq_true hc10
                    conv => whnf
                    refine And.intro (by (simp only [wrap_i64]; omega)) ?_
                    refine And.intro (by decide) ?_
                    refine And.intro (by (simp only [wrap_i64]; omega)) ?_
                    conv => whnf
                    refine And.intro (by decide) ?_
                    refine And.intro (by decide) ?_
                    conv => whnf
                    refine ex_row_r (f := rr) hp ?_
                    conv => whnf
                    refine And.intro (fun hc12 => ?_) (fun hc12 => ?_)
                    · replace hc12 := of_decide_eq_false (Bool.not_eq_true' _ |>.mp hc12)
                      contradiction
                    · replace hc12 := of_decide_eq_true (Bool.not_eq_false' _ |>.mp hc12)
                      conv => whnf
                      refine br_r rfl rfl ?_
                      conv => whnf
                      refine br_r rfl rfl ?_
                      conv => whnf
                      refine br_r rfl rfl ?_
                      conv => whnf
                      refine br_r rfl rfl ?_
                      conv => whnf
                      refine ihl0 (n + 1) _ ?_ ?_ (st_of ?_)
                      · omega
                      · omega
                      · conv => whnf
                        refine And.intro (by with_reducible rfl) ?_
                        conv => whnf
                        refine And.intro (by with_reducible rfl) ?_
                        refine And.intro (by exact rr_ext_n hl (by assumption) (by assumption) (by assumption) hp (by assumption)) ?_
                        conv => whnf
                        refine And.intro (by (simp only [wrap_i64]; omega)) ?_
                        conv => whnf
                        refine And.intro (by exact rr_ext hl (by assumption) (by assumption) (by assumption) hp (by assumption)) ?_
                        exact True.intro
                  · replace hc10 := of_decide_eq_false hc10
                    conv => whnf
                    refine And.intro (by with_reducible rfl) ?_
                    refine And.intro (by (have := rr_L (n := n) hl; simp only [map_rows, maxLen_eq, List.length_singleton]; omega)) ?_
                    refine And.intro (by (have := rr_L (n := n) hl; simp only [map_rows, maxLen_eq, List.length_singleton]; omega)) ?_
                    refine And.intro (by (have := rr_L (n := n) hl; simp only [map_rows, maxLen_eq, List.length_singleton]; omega)) ?_
                    refine And.intro (by exact rr_flat _) ?_
                    refine And.intro (by exact rr_flat [((n : Int), (n : Int))]) ?_
                    conv => whnf
                    refine And.intro (fun hc13 => ?_) (fun hc13 => ?_)
                    · replace hc13 := of_decide_eq_false (Bool.not_eq_true' _ |>.mp hc13)
                      contradiction
                    · replace hc13 := of_decide_eq_true (Bool.not_eq_false' _ |>.mp hc13)
                      conv => whnf
                      refine br_r rfl rfl ?_
                      conv => whnf
                      refine br_r rfl rfl ?_
                      conv => whnf
                      refine br_r rfl rfl ?_
                      conv => whnf
                      refine br_r rfl rfl ?_
                      conv => whnf
                      refine ihl0 (n + 1) _ ?_ ?_ (st_of ?_)
                      · omega
                      · omega
                      · conv => whnf
                        refine And.intro (by with_reducible rfl) ?_
                        conv => whnf
                        refine And.intro (by with_reducible rfl) ?_
                        refine And.intro (by exact rr_new_n hl (by assumption) (by assumption) (.inr ⟨by assumption, _, hp, by assumption⟩)) ?_
                        conv => whnf
                        refine And.intro (by (simp only [wrap_i64]; omega)) ?_
                        conv => whnf
                        refine And.intro (by exact rr_new hl (by assumption) (by assumption) (.inr ⟨by assumption, _, hp, by assumption⟩)) ?_
                        exact True.intro
              · replace hc8 := of_decide_eq_false hc8
                conv => whnf
                refine br_r rfl rfl ?_
                conv => whnf
                refine br_r rfl rfl ?_
                conv => whnf
                refine br_r rfl rfl ?_
                conv => whnf
                refine br_r rfl rfl ?_
                conv => whnf
                refine br_r rfl rfl ?_
                conv => whnf
                refine br_r rfl rfl ?_
                conv => whnf
                refine br_r rfl rfl ?_
                conv => whnf
                refine br_r rfl rfl ?_
                conv => whnf
                refine br_r rfl rfl ?_
                conv => whnf
                refine br_r rfl rfl ?_
                conv => whnf
                refine br_r rfl rfl ?_
                conv => whnf
                refine And.intro (by with_reducible rfl) ?_
                refine And.intro (by (have := rr_L (n := n) hl; simp only [map_rows, maxLen_eq, List.length_singleton]; omega)) ?_
                refine And.intro (by (have := rr_L (n := n) hl; simp only [map_rows, maxLen_eq, List.length_singleton]; omega)) ?_
                refine And.intro (by (have := rr_L (n := n) hl; simp only [map_rows, maxLen_eq, List.length_singleton]; omega)) ?_
                refine And.intro (by exact rr_flat _) ?_
                refine And.intro (by exact rr_flat [((n : Int), (n : Int))]) ?_
                conv => whnf
                refine And.intro (fun hc14 => ?_) (fun hc14 => ?_)
                · replace hc14 := of_decide_eq_false (Bool.not_eq_true' _ |>.mp hc14)
                  contradiction
                · replace hc14 := of_decide_eq_true (Bool.not_eq_false' _ |>.mp hc14)
                  conv => whnf
                  refine br_r rfl rfl ?_
                  conv => whnf
                  refine br_r rfl rfl ?_
                  conv => whnf
                  refine br_r rfl rfl ?_
                  conv => whnf
                  refine br_r rfl rfl ?_
                  conv => whnf
                  refine ihl0 (n + 1) _ ?_ ?_ (st_of ?_)
                  · omega
                  · omega
                  · conv => whnf
                    refine And.intro (by with_reducible rfl) ?_
                    conv => whnf
                    refine And.intro (by with_reducible rfl) ?_
                    refine And.intro (by exact rr_new_n hl (by assumption) (by assumption) (.inl (by assumption))) ?_
                    conv => whnf
                    refine And.intro (by (simp only [wrap_i64]; omega)) ?_
                    conv => whnf
                    refine And.intro (by exact rr_new hl (by assumption) (by assumption) (.inl (by assumption))) ?_
                    exact True.intro
      · replace hc1 := of_decide_eq_false hc1
        (exfalso; have := rr_L (n := n) hl; simp only [map_rows] at *; omega)
    · replace hc0 := of_decide_eq_false hc0
      conv => whnf
      refine br_r rfl rfl ?_
      conv => whnf
      refine br_r rfl rfl ?_
      conv => whnf
      refine br_r rfl rfl ?_
      conv => whnf
      refine br_r rfl rfl ?_
      conv => whnf
      refine And.intro (by with_reducible rfl) ?_
      refine And.intro (by with_reducible rfl) ?_
      refine And.intro (by omega) ?_
      refine And.intro (by exact rr_flat _) ?_
      conv => whnf
      refine AV.of_eqv ?_
      conv => whnf
      refine And.intro (by exact rr_fin (rr_last hs hIl0 (by assumption))) ?_
      exact True.intro
end Go.Proofs.Ytfkihagcgjombaa

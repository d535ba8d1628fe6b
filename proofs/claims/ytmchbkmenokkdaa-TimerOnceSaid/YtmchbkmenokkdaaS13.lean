/- What the laws of chapter 13 call. -/
import Derived.Test.YtmchbkmenokkdaaS13c
set_option maxRecDepth 100000
set_option linter.unusedSimpArgs false
set_option linter.unusedVariables false
namespace Go.Proofs.Ytmchbkmenokkdaa
open Go.RowKit
set_option maxHeartbeats 4000000
abbrev Al := Int × Int × Int
def al (x : Al) : List AV := [.int .i64 x.1, .int .i64 x.2.1, .int .i64 x.2.2]
abbrev eA (k n l : Int) : AV := .agg [.int .i64 k, .int .i64 n, .int .i64 l]
theorem nright_good (x : Int) : Good Try.prog 126 [.int .i64 x] (.bool (decide (0 ≤ x ∧ x < 16))) := by
  apply good_at ak126 rfl rfl rfl
  conv => whnf
  refine And.intro (fun hc0 => ?_) (fun hc0 => ?_)
  · replace hc0 := of_decide_eq_true hc0
    conv => whnf
    refine br_l rfl rfl ?_
    conv => whnf
    refine br_l rfl rfl ?_
    conv => whnf
    refine AV.of_eqv ?_
    conv => whnf
    refine And.intro (by exact decide_eq_decide.2 (by omega)) ?_
    exact True.intro
  · replace hc0 := of_decide_eq_false hc0
    conv => whnf
    refine br_r rfl rfl ?_
    conv => whnf
    refine br_r rfl rfl ?_
    conv => whnf
    refine AV.of_eqv ?_
    conv => whnf
    refine And.intro (by exact (decide_eq_false (by omega)).symm) ?_
    exact True.intro
theorem right_good (k n l : Int) : Good Try.prog 94 [eA k n l] (.bool (decide (0 ≤ k ∧ k ≤ 3 ∧ 0 ≤ n ∧ n < 16 ∧ 1 ≤ l ∧ l ≤ 1073741824))) := by
  apply good_at ak94 rfl rfl rfl
  conv => whnf
  refine And.intro (fun hc0 => ?_) (fun hc0 => ?_)
  · replace hc0 := of_decide_eq_true hc0
    conv => whnf
    refine br_l rfl rfl ?_
    conv => whnf
    refine br_l rfl rfl ?_
    conv => whnf
    refine br_l rfl rfl ?_
    conv => whnf
    refine And.intro (fun hc1 => ?_) (fun hc1 => ?_)
    · replace hc1 := of_decide_eq_true hc1
      conv => whnf
      refine br_l rfl rfl ?_
      conv => whnf
      refine br_l rfl rfl ?_
      conv => whnf
      refine ⟨_, nright_good _, ?_⟩
      conv => whnf
      refine br_l rfl rfl ?_
      conv => whnf
      refine And.intro (fun hc2 => ?_) (fun hc2 => ?_)
      · replace hc2 := of_decide_eq_true hc2
        conv => whnf
        refine br_l rfl rfl ?_
        conv => whnf
        refine br_l rfl rfl ?_
        conv => whnf
        refine br_l rfl rfl ?_
        conv => whnf
        refine And.intro (fun hc3 => ?_) (fun hc3 => ?_)
        · replace hc3 := of_decide_eq_true hc3
          conv => whnf
          refine br_l rfl rfl ?_
          conv => whnf
          refine br_l rfl rfl ?_
          conv => whnf
          refine br_l rfl rfl ?_
          conv => whnf
          refine AV.of_eqv ?_
          conv => whnf
          refine And.intro (by exact decide_eq_decide.2 (by omega)) ?_
          exact True.intro
        · replace hc3 := of_decide_eq_false hc3
          conv => whnf
          refine br_r rfl rfl ?_
          conv => whnf
          refine br_r rfl rfl ?_
          conv => whnf
          refine br_r rfl rfl ?_
          conv => whnf
          refine AV.of_eqv ?_
          conv => whnf
          refine And.intro (by exact (decide_eq_false (by omega)).symm) ?_
          exact True.intro
      · replace hc2 := of_decide_eq_false hc2
        conv => whnf
        refine br_r rfl rfl ?_
        conv => whnf
        refine br_r rfl rfl ?_
        conv => whnf
        refine br_r rfl rfl ?_
        conv => whnf
        refine br_r rfl rfl ?_
        conv => whnf
        refine br_r rfl rfl ?_
        conv => whnf
        refine br_r rfl rfl ?_
        conv => whnf
        refine br_r rfl rfl ?_
        conv => whnf
        refine AV.of_eqv ?_
        conv => whnf
        refine And.intro (by exact (decide_eq_false (by omega)).symm) ?_
        exact True.intro
    · replace hc1 := of_decide_eq_false hc1
      conv => whnf
      refine br_r rfl rfl ?_
      conv => whnf
      refine br_r rfl rfl ?_
      conv => whnf
      refine br_r rfl rfl ?_
      conv => whnf
      refine br_r rfl rfl ?_
      conv => whnf
      refine br_r rfl rfl ?_
      conv => whnf
      refine br_r rfl rfl ?_
      conv => whnf
      refine br_r rfl rfl ?_
      conv => whnf
      refine br_r rfl rfl ?_
      conv => whnf
      refine br_r rfl rfl ?_
      conv => whnf
      refine br_r rfl rfl ?_
      conv => whnf
      refine br_r rfl rfl ?_
      conv => whnf
      refine AV.of_eqv ?_
      conv => whnf
      refine And.intro (by exact (decide_eq_false (by omega)).symm) ?_
      exact True.intro
  · replace hc0 := of_decide_eq_false hc0
    conv => whnf
    refine br_r rfl rfl ?_
    conv => whnf
    refine br_r rfl rfl ?_
    conv => whnf
    refine br_r rfl rfl ?_
    conv => whnf
    refine br_r rfl rfl ?_
    conv => whnf
    refine br_r rfl rfl ?_
    conv => whnf
    refine br_r rfl rfl ?_
    conv => whnf
    refine br_r rfl rfl ?_
    conv => whnf
    refine br_r rfl rfl ?_
    conv => whnf
    refine br_r rfl rfl ?_
    conv => whnf
    refine br_r rfl rfl ?_
    conv => whnf
    refine br_r rfl rfl ?_
    conv => whnf
    refine br_r rfl rfl ?_
    conv => whnf
    refine br_r rfl rfl ?_
    conv => whnf
    refine br_r rfl rfl ?_
    conv => whnf
    refine br_r rfl rfl ?_
    conv => whnf
    refine AV.of_eqv ?_
    conv => whnf
    refine And.intro (by exact (decide_eq_false (by omega)).symm) ?_
    exact True.intro
theorem ahead_good (k n l k' n' l' : Int) : Good Try.prog 95 [eA k n l, eA k' n' l'] (.bool (decide (k < k' ∨ (k = k' ∧ n < n')))) := by
  apply good_at ak95 rfl rfl rfl
  conv => whnf
  refine And.intro (fun hc0 => ?_) (fun hc0 => ?_)
  · replace hc0 := of_decide_eq_false (Bool.not_eq_true' _ |>.mp hc0)
    conv => whnf
    refine AV.of_eqv ?_
    conv => whnf
    refine And.intro (by exact decide_eq_decide.2 (by omega)) ?_
    exact True.intro
  · replace hc0 := of_decide_eq_true (Bool.not_eq_false' _ |>.mp hc0)
    conv => whnf
    refine AV.of_eqv ?_
    conv => whnf
    refine And.intro (by exact decide_eq_decide.2 (by omega)) ?_
    exact True.intro
def hit (k n : Int) (x : Al) : Bool := decide (x.1 = k) && decide (x.2.1 = n)
def stp (k n : Int) (x : Al) : Bool := !(hit k n x)
theorem stop_good (xs : List (List AV)) (l : List Al) (k n : Int) (hx : xs = l.map al) (hl : l.length ≤ 1000000) : Good Try.prog 96 [.sl .sh 3 xs, .int .i64 k, .int .i64 n] (.sl .own 3 ((l.filter (stp k n)).map al)) := by
  subst hx
  apply good_at ak96 rfl rfl rfl
  conv => whnf
  refine loop_at (α := Nat) (fun i => [(12, .int .i64 (i : Int)), (7, .sl .own 3 (((l.take i).filter (stp k n)).map al))]) (fun i => []) (fun i => i ≤ l.length) (fun i => l.length - i) (0) (st_of ?_) ?_ (by rintro i _; rfl) ?_
  · conv => whnf
    refine And.intro (by with_reducible rfl) ?_
    conv => whnf
    refine And.intro (by with_reducible rfl) ?_
    conv => whnf
    refine And.intro (by with_reducible rfl) ?_
    conv => whnf
    refine And.intro (by with_reducible rfl) ?_
    conv => whnf
    refine And.intro (by (simp; done)) ?_
    conv => whnf
    refine And.intro (by with_reducible rfl) ?_
    conv => whnf
    refine And.intro (by with_reducible rfl) ?_
    conv => whnf
    refine And.intro (by decide) ?_
    exact True.intro
  · omega
  · rintro i nextl0 hIl0 ihl0
    try dsimp only at hIl0
    conv => whnf
    refine And.intro (fun hc0 => ?_) (fun hc0 => ?_)
    · replace hc0 := of_decide_eq_true hc0
      conv => whnf
      refine And.intro (by omega) ?_
      refine And.intro (by decide) ?_
      refine ex_row (l := l) ?_ fun x hx => ?_
      · (simp only [map_rows, maxLen_eq, List.length_cons, List.length_nil] at *; have := flen_le l i (stp k n); omega)
      · simp only [toNat_ofNat] at hx
        conv => whnf
        refine And.intro (fun hc2 => ?_) (fun hc2 => ?_)
        · replace hc2 := of_decide_eq_true hc2
          conv => whnf
          refine br_l rfl rfl ?_
          conv => whnf
          refine br_l rfl rfl ?_
          conv => whnf
          refine br_l rfl rfl ?_
          conv => whnf
          refine br_l rfl rfl ?_
          conv => whnf
          refine And.intro (fun hc3 => ?_) (fun hc3 => ?_)
          · replace hc3 := of_decide_eq_true hc3
            conv => whnf
            refine ihl0 (i + 1) _ ?_ ?_ (st_of ?_)
            · (simp only [map_rows, maxLen_eq, List.length_cons, List.length_nil] at *; have := flen_le l i (stp k n); omega)
            · (simp only [map_rows, maxLen_eq, List.length_cons, List.length_nil] at *; have := flen_le l i (stp k n); omega)
            · conv => whnf
              refine And.intro (by with_reducible rfl) ?_
              conv => whnf
              refine And.intro (by with_reducible rfl) ?_
              conv => whnf
              refine And.intro (by with_reducible rfl) ?_
              conv => whnf
              refine And.intro (by with_reducible rfl) ?_
              conv => whnf
              refine And.intro (by (rw [filter_at _ hx]; simp [stp, hit, al, *]; done)) ?_
              conv => whnf
              refine And.intro (by with_reducible rfl) ?_
              conv => whnf
              refine And.intro (by with_reducible rfl) ?_
              conv => whnf
              refine And.intro (by (simp only [wrap_i64, wrap_u64, wrap_u32, wrap_u16, wrap_u8, maxLen_eq, mmI] at *; omega)) ?_
              exact True.intro
          · replace hc3 := of_decide_eq_false hc3
            conv => whnf
            refine And.intro (by (simp; done)) ?_
            refine And.intro (by (simp only [map_rows, maxLen_eq, List.length_cons, List.length_nil] at *; have := flen_le l i (stp k n); omega)) ?_
            refine And.intro (by (simp only [map_rows, maxLen_eq, List.length_cons, List.length_nil] at *; have := flen_le l i (stp k n); omega)) ?_
            conv => whnf
            refine ihl0 (i + 1) _ ?_ ?_ (st_of ?_)
            · (simp only [map_rows, maxLen_eq, List.length_cons, List.length_nil] at *; have := flen_le l i (stp k n); omega)
            · (simp only [map_rows, maxLen_eq, List.length_cons, List.length_nil] at *; have := flen_le l i (stp k n); omega)
            · conv => whnf
              refine And.intro (by with_reducible rfl) ?_
              conv => whnf
              refine And.intro (by with_reducible rfl) ?_
              conv => whnf
              refine And.intro (by with_reducible rfl) ?_
              conv => whnf
              refine And.intro (by with_reducible rfl) ?_
              conv => whnf
              refine And.intro (by (rw [filter_at _ hx]; simp [stp, hit, al, *]; done)) ?_
              conv => whnf
              refine And.intro (by with_reducible rfl) ?_
              conv => whnf
              refine And.intro (by with_reducible rfl) ?_
              conv => whnf
              refine And.intro (by (simp only [wrap_i64, wrap_u64, wrap_u32, wrap_u16, wrap_u8, maxLen_eq, mmI] at *; omega)) ?_
              exact True.intro
        · replace hc2 := of_decide_eq_false hc2
          conv => whnf
          refine br_r rfl rfl ?_
          conv => whnf
          refine br_r rfl rfl ?_
          conv => whnf
          refine br_r rfl rfl ?_
          conv => whnf
          refine br_r rfl rfl ?_
          conv => whnf
          refine br_r rfl rfl ?_
          conv => whnf
          refine And.intro (by (simp; done)) ?_
          refine And.intro (by (simp only [map_rows, maxLen_eq, List.length_cons, List.length_nil] at *; have := flen_le l i (stp k n); omega)) ?_
          refine And.intro (by (simp only [map_rows, maxLen_eq, List.length_cons, List.length_nil] at *; have := flen_le l i (stp k n); omega)) ?_
          conv => whnf
          refine ihl0 (i + 1) _ ?_ ?_ (st_of ?_)
          · (simp only [map_rows, maxLen_eq, List.length_cons, List.length_nil] at *; have := flen_le l i (stp k n); omega)
          · (simp only [map_rows, maxLen_eq, List.length_cons, List.length_nil] at *; have := flen_le l i (stp k n); omega)
          · conv => whnf
            refine And.intro (by with_reducible rfl) ?_
            conv => whnf
            refine And.intro (by with_reducible rfl) ?_
            conv => whnf
            refine And.intro (by with_reducible rfl) ?_
            conv => whnf
            refine And.intro (by with_reducible rfl) ?_
            conv => whnf
            refine And.intro (by (rw [filter_at _ hx]; simp [stp, hit, al, *]; done)) ?_
            conv => whnf
            refine And.intro (by with_reducible rfl) ?_
            conv => whnf
            refine And.intro (by with_reducible rfl) ?_
            conv => whnf
            refine And.intro (by (simp only [wrap_i64, wrap_u64, wrap_u32, wrap_u16, wrap_u8, maxLen_eq, mmI] at *; omega)) ?_
            exact True.intro
    · replace hc0 := of_decide_eq_false hc0
      conv => whnf
      refine AV.of_eqv ?_
      conv => whnf
      refine And.intro (by (rw [take_end (by simp only [map_rows] at *; omega)])) ?_
      exact True.intro
def leftOf (l : List Al) (k n : Int) : Int := ((l.find? (hit k n)).map (·.2.2)).getD 0
theorem left_good (l : List Al) (k n : Int) (hl : l.length ≤ 1000000) : Good Try.prog 31 [.sl .sh 3 (l.map al), .int .i64 k, .int .i64 n] (.int .i64 (leftOf l k n)) := by
  apply good_at ak31 rfl rfl rfl
  conv => whnf
  refine loop_at (α := Nat) (fun i => [(11, .int .i64 (i : Int))]) (fun i => []) (fun i => i ≤ l.length ∧ (l.take i).find? (hit k n) = none) (fun i => l.length - i) (0) (st_of ?_) ?_ (by rintro i _; rfl) ?_
  · conv => whnf
    refine And.intro (by with_reducible rfl) ?_
    conv => whnf
    refine And.intro (by with_reducible rfl) ?_
    conv => whnf
    refine And.intro (by with_reducible rfl) ?_
    conv => whnf
    refine And.intro (by with_reducible rfl) ?_
    conv => whnf
    refine And.intro (by with_reducible rfl) ?_
    conv => whnf
    refine And.intro (by decide) ?_
    exact True.intro
  · (exact ⟨by omega, rfl⟩)
  · rintro i nextl0 hIl0 ihl0
    try dsimp only at hIl0
    conv => whnf
    refine And.intro (fun hc0 => ?_) (fun hc0 => ?_)
    · replace hc0 := of_decide_eq_true hc0
      conv => whnf
      refine And.intro (by omega) ?_
      refine And.intro (by decide) ?_
      refine ex_row (l := l) ?_ fun x hx => ?_
      · (simp only [map_rows, maxLen_eq] at *; omega)
      · simp only [toNat_ofNat] at hx
        conv => whnf
        refine And.intro (fun hc2 => ?_) (fun hc2 => ?_)
        · replace hc2 := of_decide_eq_true hc2
          conv => whnf
          refine br_l rfl rfl ?_
          conv => whnf
          refine br_l rfl rfl ?_
          conv => whnf
          refine br_l rfl rfl ?_
          conv => whnf
          refine br_l rfl rfl ?_
          conv => whnf
          refine And.intro (fun hc3 => ?_) (fun hc3 => ?_)
          · replace hc3 := of_decide_eq_true hc3
            conv => whnf
            refine AV.of_eqv ?_
            conv => whnf
            refine And.intro (by (unfold leftOf; rw [find_in hIl0.2 hx (by simp [hit, *])]; rfl)) ?_
            exact True.intro
          · replace hc3 := of_decide_eq_false hc3
            conv => whnf
            refine ihl0 (i + 1) _ ?_ ?_ (st_of ?_)
            · (refine ⟨by have := lt_at hx; omega, ?_⟩; rw [find_at hIl0.2 hx]; simp [hit, *]; done)
            · (simp only [map_rows, maxLen_eq] at *; omega)
            · conv => whnf
              refine And.intro (by with_reducible rfl) ?_
              conv => whnf
              refine And.intro (by with_reducible rfl) ?_
              conv => whnf
              refine And.intro (by with_reducible rfl) ?_
              conv => whnf
              refine And.intro (by with_reducible rfl) ?_
              conv => whnf
              refine And.intro (by with_reducible rfl) ?_
              conv => whnf
              refine And.intro (by (simp only [wrap_i64, wrap_u64, wrap_u32, wrap_u16, wrap_u8, maxLen_eq, mmI] at *; omega)) ?_
              exact True.intro
        · replace hc2 := of_decide_eq_false hc2
          conv => whnf
          refine br_r rfl rfl ?_
          conv => whnf
          refine br_r rfl rfl ?_
          conv => whnf
          refine br_r rfl rfl ?_
          conv => whnf
          refine br_r rfl rfl ?_
          conv => whnf
          refine br_r rfl rfl ?_
          conv => whnf
          refine ihl0 (i + 1) _ ?_ ?_ (st_of ?_)
          · (refine ⟨by have := lt_at hx; omega, ?_⟩; rw [find_at hIl0.2 hx]; simp [hit, *]; done)
          · (simp only [map_rows, maxLen_eq] at *; omega)
          · conv => whnf
            refine And.intro (by with_reducible rfl) ?_
            conv => whnf
            refine And.intro (by with_reducible rfl) ?_
            conv => whnf
            refine And.intro (by with_reducible rfl) ?_
            conv => whnf
            refine And.intro (by with_reducible rfl) ?_
            conv => whnf
            refine And.intro (by with_reducible rfl) ?_
            conv => whnf
            refine And.intro (by (simp only [wrap_i64, wrap_u64, wrap_u32, wrap_u16, wrap_u8, maxLen_eq, mmI] at *; omega)) ?_
            exact True.intro
    · replace hc0 := of_decide_eq_false hc0
      conv => whnf
      refine AV.of_eqv ?_
      conv => whnf
      refine And.intro (by (unfold leftOf; rw [find_out hIl0.2 (by simp only [map_rows] at *; omega)]; rfl)) ?_
      exact True.intro
def onE (x : Al) : Option Al := if 1 < x.2.2 then some (x.1, x.2.1, IntKind.i64.wrap (x.2.2 - 1)) else none
def offE (x : Al) : Option Al := if 1 < x.2.2 then none else some (x.1, x.2.1, 0)
theorem tick_good (l : List Al) (hl : l.length ≤ 1000000) : Good Try.prog 30 [.sl .sh 3 (l.map al)] (.tuple [.sl .own 3 ((l.filterMap onE).map al), .sl .own 3 ((l.filterMap offE).map al)]) := by
  apply good_at ak30 rfl rfl rfl
  conv => whnf
  refine loop_at (α := Nat) (fun i => [(10, .int .i64 (i : Int)), (4, .sl .own 3 (((l.take i).filterMap onE).map al)), (5, .sl .own 3 (((l.take i).filterMap offE).map al))]) (fun i => []) (fun i => i ≤ l.length) (fun i => l.length - i) (0) (st_of ?_) ?_ (by rintro i _; rfl) ?_
  · conv => whnf
    refine And.intro (by with_reducible rfl) ?_
    conv => whnf
    refine And.intro (by with_reducible rfl) ?_
    conv => whnf
    refine And.intro (by with_reducible rfl) ?_
    conv => whnf
    refine And.intro (by (simp; done)) ?_
    conv => whnf
    refine And.intro (by (simp; done)) ?_
    conv => whnf
    refine And.intro (by with_reducible rfl) ?_
    conv => whnf
    refine And.intro (by with_reducible rfl) ?_
    conv => whnf
    refine And.intro (by decide) ?_
    exact True.intro
  · omega
  · rintro i nextl0 hIl0 ihl0
    try dsimp only at hIl0
    conv => whnf
    refine And.intro (fun hc0 => ?_) (fun hc0 => ?_)
    · replace hc0 := of_decide_eq_true hc0
      conv => whnf
      refine And.intro (by omega) ?_
      refine And.intro (by decide) ?_
      refine ex_row (l := l) ?_ fun x hx => ?_
      · (simp only [map_rows, maxLen_eq, List.length_cons, List.length_nil] at *; have := mlen_le l i onE; have := mlen_le l i offE; omega)
      · simp only [toNat_ofNat] at hx
        conv => whnf
        refine And.intro (fun hc2 => ?_) (fun hc2 => ?_)
        · replace hc2 := of_decide_eq_true hc2
          conv => whnf
          refine And.intro (by (simp; done)) ?_
          refine And.intro (by (simp only [map_rows, maxLen_eq, List.length_cons, List.length_nil] at *; have := mlen_le l i onE; have := mlen_le l i offE; omega)) ?_
          refine And.intro (by (simp only [map_rows, maxLen_eq, List.length_cons, List.length_nil] at *; have := mlen_le l i onE; have := mlen_le l i offE; omega)) ?_
          conv => whnf
          refine ihl0 (i + 1) _ ?_ ?_ (st_of ?_)
          · (simp only [map_rows, maxLen_eq, List.length_cons, List.length_nil] at *; have := mlen_le l i onE; have := mlen_le l i offE; omega)
          · (simp only [map_rows, maxLen_eq, List.length_cons, List.length_nil] at *; have := mlen_le l i onE; have := mlen_le l i offE; omega)
          · conv => whnf
            refine And.intro (by with_reducible rfl) ?_
            conv => whnf
            refine And.intro (by with_reducible rfl) ?_
            conv => whnf
            refine And.intro (by with_reducible rfl) ?_
            conv => whnf
            refine And.intro (by (rw [fmap_at _ hx]; simp [onE, offE, al, *]; done)) ?_
            conv => whnf
            refine And.intro (by (rw [fmap_at _ hx]; simp [onE, offE, al, *]; done)) ?_
            conv => whnf
            refine And.intro (by with_reducible rfl) ?_
            conv => whnf
            refine And.intro (by with_reducible rfl) ?_
            conv => whnf
            refine And.intro (by (simp only [wrap_i64, wrap_u64, wrap_u32, wrap_u16, wrap_u8, maxLen_eq, mmI] at *; omega)) ?_
            exact True.intro
        · replace hc2 := of_decide_eq_false hc2
          conv => whnf
          refine And.intro (by (simp; done)) ?_
          refine And.intro (by (simp only [map_rows, maxLen_eq, List.length_cons, List.length_nil] at *; have := mlen_le l i onE; have := mlen_le l i offE; omega)) ?_
          refine And.intro (by (simp only [map_rows, maxLen_eq, List.length_cons, List.length_nil] at *; have := mlen_le l i onE; have := mlen_le l i offE; omega)) ?_
          conv => whnf
          refine ihl0 (i + 1) _ ?_ ?_ (st_of ?_)
          · (simp only [map_rows, maxLen_eq, List.length_cons, List.length_nil] at *; have := mlen_le l i onE; have := mlen_le l i offE; omega)
          · (simp only [map_rows, maxLen_eq, List.length_cons, List.length_nil] at *; have := mlen_le l i onE; have := mlen_le l i offE; omega)
          · conv => whnf
            refine And.intro (by with_reducible rfl) ?_
            conv => whnf
            refine And.intro (by with_reducible rfl) ?_
            conv => whnf
            refine And.intro (by with_reducible rfl) ?_
            conv => whnf
            refine And.intro (by (rw [fmap_at _ hx]; simp [onE, offE, al, *]; done)) ?_
            conv => whnf
            refine And.intro (by (rw [fmap_at _ hx]; simp [onE, offE, al, *]; done)) ?_
            conv => whnf
            refine And.intro (by with_reducible rfl) ?_
            conv => whnf
            refine And.intro (by with_reducible rfl) ?_
            conv => whnf
            refine And.intro (by (simp only [wrap_i64, wrap_u64, wrap_u32, wrap_u16, wrap_u8, maxLen_eq, mmI] at *; omega)) ?_
            exact True.intro
    · replace hc0 := of_decide_eq_false hc0
      conv => whnf
      refine AV.of_eqv ?_
      conv => whnf
      refine And.intro (by (rw [take_end (by simp only [map_rows] at *; omega)])) ?_
      conv => whnf
      refine And.intro (by (rw [take_end (by simp only [map_rows] at *; omega)])) ?_
      exact True.intro
theorem rtick_good (l : List Al) (hl : l.length ≤ 1000000) : Good Try.prog 98 [.sl .sh 3 (l.map al)] (.tuple [.sl .own 3 ((l.filterMap onE).map al), .sl .own 3 ((l.filterMap offE).map al)]) := by
  apply good_at ak98 rfl rfl rfl
  conv => whnf
  refine loop_at (α := Nat) (fun i => [(10, .int .i64 (i : Int)), (4, .sl .own 3 (((l.take i).filterMap onE).map al)), (5, .sl .own 3 (((l.take i).filterMap offE).map al))]) (fun i => []) (fun i => i ≤ l.length) (fun i => l.length - i) (0) (st_of ?_) ?_ (by rintro i _; rfl) ?_
  · conv => whnf
    refine And.intro (by with_reducible rfl) ?_
    conv => whnf
    refine And.intro (by with_reducible rfl) ?_
    conv => whnf
    refine And.intro (by with_reducible rfl) ?_
    conv => whnf
    refine And.intro (by (simp; done)) ?_
    conv => whnf
    refine And.intro (by (simp; done)) ?_
    conv => whnf
    refine And.intro (by with_reducible rfl) ?_
    conv => whnf
    refine And.intro (by with_reducible rfl) ?_
    conv => whnf
    refine And.intro (by decide) ?_
    exact True.intro
  · omega
  · rintro i nextl0 hIl0 ihl0
    try dsimp only at hIl0
    conv => whnf
    refine And.intro (fun hc0 => ?_) (fun hc0 => ?_)
    · replace hc0 := of_decide_eq_true hc0
      conv => whnf
      refine And.intro (by omega) ?_
      refine And.intro (by decide) ?_
      refine ex_row (l := l) ?_ fun x hx => ?_
      · (simp only [map_rows, maxLen_eq, List.length_cons, List.length_nil] at *; have := mlen_le l i onE; have := mlen_le l i offE; omega)
      · simp only [toNat_ofNat] at hx
        conv => whnf
        refine And.intro (fun hc2 => ?_) (fun hc2 => ?_)
        · replace hc2 := of_decide_eq_true hc2
          conv => whnf
          refine And.intro (by (simp; done)) ?_
          refine And.intro (by (simp only [map_rows, maxLen_eq, List.length_cons, List.length_nil] at *; have := mlen_le l i onE; have := mlen_le l i offE; omega)) ?_
          refine And.intro (by (simp only [map_rows, maxLen_eq, List.length_cons, List.length_nil] at *; have := mlen_le l i onE; have := mlen_le l i offE; omega)) ?_
          conv => whnf
          refine ihl0 (i + 1) _ ?_ ?_ (st_of ?_)
          · (simp only [map_rows, maxLen_eq, List.length_cons, List.length_nil] at *; have := mlen_le l i onE; have := mlen_le l i offE; omega)
          · (simp only [map_rows, maxLen_eq, List.length_cons, List.length_nil] at *; have := mlen_le l i onE; have := mlen_le l i offE; omega)
          · conv => whnf
            refine And.intro (by with_reducible rfl) ?_
            conv => whnf
            refine And.intro (by with_reducible rfl) ?_
            conv => whnf
            refine And.intro (by with_reducible rfl) ?_
            conv => whnf
            refine And.intro (by (rw [fmap_at _ hx]; simp [onE, offE, al, *]; done)) ?_
            conv => whnf
            refine And.intro (by (rw [fmap_at _ hx]; simp [onE, offE, al, *]; done)) ?_
            conv => whnf
            refine And.intro (by with_reducible rfl) ?_
            conv => whnf
            refine And.intro (by with_reducible rfl) ?_
            conv => whnf
            refine And.intro (by (simp only [wrap_i64, wrap_u64, wrap_u32, wrap_u16, wrap_u8, maxLen_eq, mmI] at *; omega)) ?_
            exact True.intro
        · replace hc2 := of_decide_eq_false hc2
          conv => whnf
          refine And.intro (by (simp; done)) ?_
          refine And.intro (by (simp only [map_rows, maxLen_eq, List.length_cons, List.length_nil] at *; have := mlen_le l i onE; have := mlen_le l i offE; omega)) ?_
          refine And.intro (by (simp only [map_rows, maxLen_eq, List.length_cons, List.length_nil] at *; have := mlen_le l i onE; have := mlen_le l i offE; omega)) ?_
          conv => whnf
          refine ihl0 (i + 1) _ ?_ ?_ (st_of ?_)
          · (simp only [map_rows, maxLen_eq, List.length_cons, List.length_nil] at *; have := mlen_le l i onE; have := mlen_le l i offE; omega)
          · (simp only [map_rows, maxLen_eq, List.length_cons, List.length_nil] at *; have := mlen_le l i onE; have := mlen_le l i offE; omega)
          · conv => whnf
            refine And.intro (by with_reducible rfl) ?_
            conv => whnf
            refine And.intro (by with_reducible rfl) ?_
            conv => whnf
            refine And.intro (by with_reducible rfl) ?_
            conv => whnf
            refine And.intro (by (rw [fmap_at _ hx]; simp [onE, offE, al, *]; done)) ?_
            conv => whnf
            refine And.intro (by (rw [fmap_at _ hx]; simp [onE, offE, al, *]; done)) ?_
            conv => whnf
            refine And.intro (by with_reducible rfl) ?_
            conv => whnf
            refine And.intro (by with_reducible rfl) ?_
            conv => whnf
            refine And.intro (by (simp only [wrap_i64, wrap_u64, wrap_u32, wrap_u16, wrap_u8, maxLen_eq, mmI] at *; omega)) ?_
            exact True.intro
    · replace hc0 := of_decide_eq_false hc0
      conv => whnf
      refine AV.of_eqv ?_
      conv => whnf
      refine And.intro (by (rw [take_end (by simp only [map_rows] at *; omega)])) ?_
      conv => whnf
      refine And.intro (by (rw [take_end (by simp only [map_rows] at *; omega)])) ?_
      exact True.intro
theorem equal_good (l m : List Al) (hl : l.length ≤ 1000000) (hm : m.length ≤ 1000000) : Good Try.prog 127 [.sl .sh 3 (l.map al), .sl .sh 3 (m.map al)] (.bool (decide (l = m))) := by
  apply good_at ak127 rfl rfl rfl
  conv => whnf
  refine And.intro (fun hc0 => ?_) (fun hc0 => ?_)
  · replace hc0 := of_decide_eq_false (Bool.not_eq_true' _ |>.mp hc0)
    conv => whnf
    refine AV.of_eqv ?_
    conv => whnf
    refine And.intro (by (exact (decide_eq_false (by rintro rfl; omega)).symm)) ?_
    exact True.intro
  · replace hc0 := of_decide_eq_true (Bool.not_eq_false' _ |>.mp hc0)
    conv => whnf
    refine loop_at (α := Nat) (fun i => [(13, .int .i64 (i : Int))]) (fun i => []) (fun i => i ≤ l.length ∧ l.take i = m.take i) (fun i => l.length - i) (0) (st_of ?_) ?_ (by rintro i _; rfl) ?_
    · conv => whnf
      refine And.intro (by with_reducible rfl) ?_
      conv => whnf
      refine And.intro (by with_reducible rfl) ?_
      conv => whnf
      refine And.intro (by with_reducible rfl) ?_
      conv => whnf
      refine And.intro (by with_reducible rfl) ?_
      conv => whnf
      refine And.intro (by with_reducible rfl) ?_
      conv => whnf
      refine And.intro (by with_reducible rfl) ?_
      conv => whnf
      refine And.intro (by with_reducible rfl) ?_
      conv => whnf
      refine And.intro (by with_reducible rfl) ?_
      conv => whnf
      refine And.intro (by with_reducible rfl) ?_
      conv => whnf
      refine And.intro (by decide) ?_
      exact True.intro
    · (exact ⟨by omega, rfl⟩)
    · rintro i nextl0 hIl0 ihl0
      try dsimp only at hIl0
      conv => whnf
      refine And.intro (fun hc1 => ?_) (fun hc1 => ?_)
      · replace hc1 := of_decide_eq_true hc1
        conv => whnf
        refine And.intro (by exact rfl) ?_
        conv => whnf
        refine And.intro (by omega) ?_
        refine And.intro (by decide) ?_
        refine ex_row (l := l) ?_ fun x hx => ?_
        · (simp only [map_rows, maxLen_eq] at *; omega)
        · simp only [toNat_ofNat] at hx
          conv => whnf
          refine And.intro (by omega) ?_
          refine And.intro (by decide) ?_
          refine ex_row (l := m) ?_ fun y hy => ?_
          · (simp only [map_rows, maxLen_eq] at *; omega)
          · simp only [toNat_ofNat] at hy
            conv => whnf
            refine And.intro (fun hc4 => ?_) (fun hc4 => ?_)
            · simp only [Bool.not_eq_true', Bool.not_eq_false', Bool.and_eq_true, Bool.and_eq_false_imp, Bool.or_eq_true, Bool.or_eq_false_iff, Bool.and_true, Bool.true_and, Bool.not_true, Bool.not_false, decide_eq_true_eq, decide_eq_false_iff_not, Bool.decide_and] at hc4
              conv => whnf
              refine AV.of_eqv ?_
              conv => whnf
              refine And.intro (by (exact (decide_eq_false (ne_at hx hy (by rintro rfl; simp_all))).symm)) ?_
              exact True.intro
            · simp only [Bool.not_eq_true', Bool.not_eq_false', Bool.and_eq_true, Bool.and_eq_false_imp, Bool.or_eq_true, Bool.or_eq_false_iff, Bool.and_true, Bool.true_and, Bool.not_true, Bool.not_false, decide_eq_true_eq, decide_eq_false_iff_not, Bool.decide_and] at hc4
              conv => whnf
              refine ihl0 (i + 1) _ ?_ ?_ (st_of ?_)
              · (have := lt_at hx; exact ⟨by omega, eq_next hIl0.2 hx hy (by simp_all [Prod.ext_iff])⟩)
              · (simp only [map_rows, maxLen_eq] at *; omega)
              · conv => whnf
                refine And.intro (by with_reducible rfl) ?_
                conv => whnf
                refine And.intro (by with_reducible rfl) ?_
                conv => whnf
                refine And.intro (by with_reducible rfl) ?_
                conv => whnf
                refine And.intro (by with_reducible rfl) ?_
                conv => whnf
                refine And.intro (by with_reducible rfl) ?_
                conv => whnf
                refine And.intro (by with_reducible rfl) ?_
                conv => whnf
                refine And.intro (by with_reducible rfl) ?_
                conv => whnf
                refine And.intro (by with_reducible rfl) ?_
                conv => whnf
                refine And.intro (by with_reducible rfl) ?_
                conv => whnf
                refine And.intro (by (simp only [wrap_i64, wrap_u64, wrap_u32, wrap_u16, wrap_u8, maxLen_eq, mmI] at *; omega)) ?_
                exact True.intro
      · replace hc1 := of_decide_eq_false hc1
        conv => whnf
        refine AV.of_eqv ?_
        conv => whnf
        refine And.intro (by (exact (decide_eq_true (eq_end hIl0.2 (by simp only [map_rows] at *; omega) (by simp only [map_rows] at *; omega))).symm)) ?_
        exact True.intro
theorem rsame_good (l m : List Al) (hl : l.length ≤ 1000000) (hm : m.length ≤ 1000000) : Good Try.prog 35 [.sl .sh 3 (l.map al), .sl .sh 3 (m.map al)] (.bool (decide (l = m))) := by
  apply good_at ak35 rfl rfl rfl
  conv => whnf
  refine And.intro (fun hc0 => ?_) (fun hc0 => ?_)
  · replace hc0 := of_decide_eq_false (Bool.not_eq_true' _ |>.mp hc0)
    conv => whnf
    refine AV.of_eqv ?_
    conv => whnf
    refine And.intro (by (exact (decide_eq_false (by rintro rfl; omega)).symm)) ?_
    exact True.intro
  · replace hc0 := of_decide_eq_true (Bool.not_eq_false' _ |>.mp hc0)
    conv => whnf
    refine loop_at (α := Nat) (fun i => [(13, .int .i64 (i : Int))]) (fun i => []) (fun i => i ≤ l.length ∧ l.take i = m.take i) (fun i => l.length - i) (0) (st_of ?_) ?_ (by rintro i _; rfl) ?_
    · conv => whnf
      refine And.intro (by with_reducible rfl) ?_
      conv => whnf
      refine And.intro (by with_reducible rfl) ?_
      conv => whnf
      refine And.intro (by with_reducible rfl) ?_
      conv => whnf
      refine And.intro (by with_reducible rfl) ?_
      conv => whnf
      refine And.intro (by with_reducible rfl) ?_
      conv => whnf
      refine And.intro (by with_reducible rfl) ?_
      conv => whnf
      refine And.intro (by with_reducible rfl) ?_
      conv => whnf
      refine And.intro (by with_reducible rfl) ?_
      conv => whnf
      refine And.intro (by with_reducible rfl) ?_
      conv => whnf
      refine And.intro (by decide) ?_
      exact True.intro
    · (exact ⟨by omega, rfl⟩)
    · rintro i nextl0 hIl0 ihl0
      try dsimp only at hIl0
      conv => whnf
      refine And.intro (fun hc1 => ?_) (fun hc1 => ?_)
      · replace hc1 := of_decide_eq_true hc1
        conv => whnf
        refine And.intro (by exact rfl) ?_
        conv => whnf
        refine And.intro (by omega) ?_
        refine And.intro (by decide) ?_
        refine ex_row (l := l) ?_ fun x hx => ?_
        · (simp only [map_rows, maxLen_eq] at *; omega)
        · simp only [toNat_ofNat] at hx
          conv => whnf
          refine And.intro (by omega) ?_
          refine And.intro (by decide) ?_
          refine ex_row (l := m) ?_ fun y hy => ?_
          · (simp only [map_rows, maxLen_eq] at *; omega)
          · simp only [toNat_ofNat] at hy
            conv => whnf
            refine And.intro (fun hc4 => ?_) (fun hc4 => ?_)
            · simp only [Bool.not_eq_true', Bool.not_eq_false', Bool.and_eq_true, Bool.and_eq_false_imp, Bool.or_eq_true, Bool.or_eq_false_iff, Bool.and_true, Bool.true_and, Bool.not_true, Bool.not_false, decide_eq_true_eq, decide_eq_false_iff_not, Bool.decide_and] at hc4
              conv => whnf
              refine AV.of_eqv ?_
              conv => whnf
              refine And.intro (by (exact (decide_eq_false (ne_at hx hy (by rintro rfl; simp_all))).symm)) ?_
              exact True.intro
            · simp only [Bool.not_eq_true', Bool.not_eq_false', Bool.and_eq_true, Bool.and_eq_false_imp, Bool.or_eq_true, Bool.or_eq_false_iff, Bool.and_true, Bool.true_and, Bool.not_true, Bool.not_false, decide_eq_true_eq, decide_eq_false_iff_not, Bool.decide_and] at hc4
              conv => whnf
              refine ihl0 (i + 1) _ ?_ ?_ (st_of ?_)
              · (have := lt_at hx; exact ⟨by omega, eq_next hIl0.2 hx hy (by simp_all [Prod.ext_iff])⟩)
              · (simp only [map_rows, maxLen_eq] at *; omega)
              · conv => whnf
                refine And.intro (by with_reducible rfl) ?_
                conv => whnf
                refine And.intro (by with_reducible rfl) ?_
                conv => whnf
                refine And.intro (by with_reducible rfl) ?_
                conv => whnf
                refine And.intro (by with_reducible rfl) ?_
                conv => whnf
                refine And.intro (by with_reducible rfl) ?_
                conv => whnf
                refine And.intro (by with_reducible rfl) ?_
                conv => whnf
                refine And.intro (by with_reducible rfl) ?_
                conv => whnf
                refine And.intro (by with_reducible rfl) ?_
                conv => whnf
                refine And.intro (by with_reducible rfl) ?_
                conv => whnf
                refine And.intro (by (simp only [wrap_i64, wrap_u64, wrap_u32, wrap_u16, wrap_u8, maxLen_eq, mmI] at *; omega)) ?_
                exact True.intro
      · replace hc1 := of_decide_eq_false hc1
        conv => whnf
        refine AV.of_eqv ?_
        conv => whnf
        refine And.intro (by (exact (decide_eq_true (eq_end hIl0.2 (by simp only [map_rows] at *; omega) (by simp only [map_rows] at *; omega))).symm)) ?_
        exact True.intro
theorem same_good (l m : List Al) (hl : l.length ≤ 1000000) (hm : m.length ≤ 1000000) : Good Try.prog 97 [.sl .sh 3 (l.map al), .sl .sh 3 (m.map al)] (.bool (decide (l = m))) := by
  apply good_at ak97 rfl rfl rfl
  conv => whnf
  refine ⟨_, equal_good _ _ ?_ ?_, ?_⟩
  · assumption
  · assumption
  · conv => whnf
    refine AV.of_eqv ?_
    conv => whnf
    refine And.intro (by with_reducible rfl) ?_
    exact True.intro
theorem of_good (l : List Al) (n : Int) (hl : l.length ≤ 1000000) : Good Try.prog 36 [.sl .sh 3 (l.map al), .int .i64 n] (.sl .own 3 ((l.filter fun x => decide (x.2.1 = n)).map al)) := by
  apply good_at ak36 rfl rfl rfl
  conv => whnf
  refine loop_at (α := Nat) (fun i => [(10, .int .i64 (i : Int)), (5, .sl .own 3 (((l.take i).filter fun x => decide (x.2.1 = n)).map al))]) (fun i => []) (fun i => i ≤ l.length) (fun i => l.length - i) (0) (st_of ?_) ?_ (by rintro i _; rfl) ?_
  · conv => whnf
    refine And.intro (by with_reducible rfl) ?_
    conv => whnf
    refine And.intro (by with_reducible rfl) ?_
    conv => whnf
    refine And.intro (by with_reducible rfl) ?_
    conv => whnf
    refine And.intro (by (simp; done)) ?_
    conv => whnf
    refine And.intro (by with_reducible rfl) ?_
    conv => whnf
    refine And.intro (by with_reducible rfl) ?_
    conv => whnf
    refine And.intro (by decide) ?_
    exact True.intro
  · omega
  · rintro i nextl0 hIl0 ihl0
    try dsimp only at hIl0
    conv => whnf
    refine And.intro (fun hc0 => ?_) (fun hc0 => ?_)
    · replace hc0 := of_decide_eq_true hc0
      conv => whnf
      refine And.intro (by omega) ?_
      refine And.intro (by decide) ?_
      refine ex_row (l := l) ?_ fun x hx => ?_
      · (simp only [map_rows, maxLen_eq, List.length_cons, List.length_nil] at *; have := flen_le l i (fun x => decide (x.2.1 = n)); omega)
      · simp only [toNat_ofNat] at hx
        conv => whnf
        refine And.intro (fun hc2 => ?_) (fun hc2 => ?_)
        · replace hc2 := of_decide_eq_true hc2
          conv => whnf
          refine And.intro (by (simp; done)) ?_
          refine And.intro (by (simp only [map_rows, maxLen_eq, List.length_cons, List.length_nil] at *; have := flen_le l i (fun x => decide (x.2.1 = n)); omega)) ?_
          refine And.intro (by (simp only [map_rows, maxLen_eq, List.length_cons, List.length_nil] at *; have := flen_le l i (fun x => decide (x.2.1 = n)); omega)) ?_
          conv => whnf
          refine ihl0 (i + 1) _ ?_ ?_ (st_of ?_)
          · (simp only [map_rows, maxLen_eq, List.length_cons, List.length_nil] at *; have := flen_le l i (fun x => decide (x.2.1 = n)); omega)
          · (simp only [map_rows, maxLen_eq, List.length_cons, List.length_nil] at *; have := flen_le l i (fun x => decide (x.2.1 = n)); omega)
          · conv => whnf
            refine And.intro (by with_reducible rfl) ?_
            conv => whnf
            refine And.intro (by with_reducible rfl) ?_
            conv => whnf
            refine And.intro (by with_reducible rfl) ?_
            conv => whnf
            refine And.intro (by (rw [filter_at _ hx]; simp [al, *]; done)) ?_
            conv => whnf
            refine And.intro (by with_reducible rfl) ?_
            conv => whnf
            refine And.intro (by with_reducible rfl) ?_
            conv => whnf
            refine And.intro (by (simp only [wrap_i64, wrap_u64, wrap_u32, wrap_u16, wrap_u8, maxLen_eq, mmI] at *; omega)) ?_
            exact True.intro
        · replace hc2 := of_decide_eq_false hc2
          conv => whnf
          refine ihl0 (i + 1) _ ?_ ?_ (st_of ?_)
          · (simp only [map_rows, maxLen_eq, List.length_cons, List.length_nil] at *; have := flen_le l i (fun x => decide (x.2.1 = n)); omega)
          · (simp only [map_rows, maxLen_eq, List.length_cons, List.length_nil] at *; have := flen_le l i (fun x => decide (x.2.1 = n)); omega)
          · conv => whnf
            refine And.intro (by with_reducible rfl) ?_
            conv => whnf
            refine And.intro (by with_reducible rfl) ?_
            conv => whnf
            refine And.intro (by with_reducible rfl) ?_
            conv => whnf
            refine And.intro (by (rw [filter_at _ hx]; simp [al, *]; done)) ?_
            conv => whnf
            refine And.intro (by with_reducible rfl) ?_
            conv => whnf
            refine And.intro (by with_reducible rfl) ?_
            conv => whnf
            refine And.intro (by (simp only [wrap_i64, wrap_u64, wrap_u32, wrap_u16, wrap_u8, maxLen_eq, mmI] at *; omega)) ?_
            exact True.intro
    · replace hc0 := of_decide_eq_false hc0
      conv => whnf
      refine AV.of_eqv ?_
      conv => whnf
      refine And.intro (by (rw [take_end (by simp only [map_rows] at *; omega)])) ?_
      exact True.intro
theorem rof_good (l : List Al) (n : Int) (hl : l.length ≤ 1000000) : Good Try.prog 37 [.sl .sh 3 (l.map al), .int .i64 n] (.sl .own 3 ((l.filter fun x => decide (x.2.1 = n)).map al)) := by
  apply good_at ak37 rfl rfl rfl
  conv => whnf
  refine loop_at (α := Nat) (fun i => [(10, .int .i64 (i : Int)), (5, .sl .own 3 (((l.take i).filter fun x => decide (x.2.1 = n)).map al))]) (fun i => []) (fun i => i ≤ l.length) (fun i => l.length - i) (0) (st_of ?_) ?_ (by rintro i _; rfl) ?_
  · conv => whnf
    refine And.intro (by with_reducible rfl) ?_
    conv => whnf
    refine And.intro (by with_reducible rfl) ?_
    conv => whnf
    refine And.intro (by with_reducible rfl) ?_
    conv => whnf
    refine And.intro (by (simp; done)) ?_
    conv => whnf
    refine And.intro (by with_reducible rfl) ?_
    conv => whnf
    refine And.intro (by with_reducible rfl) ?_
    conv => whnf
    refine And.intro (by decide) ?_
    exact True.intro
  · omega
  · rintro i nextl0 hIl0 ihl0
    try dsimp only at hIl0
    conv => whnf
    refine And.intro (fun hc0 => ?_) (fun hc0 => ?_)
    · replace hc0 := of_decide_eq_true hc0
      conv => whnf
      refine And.intro (by omega) ?_
      refine And.intro (by decide) ?_
      refine ex_row (l := l) ?_ fun x hx => ?_
      · (simp only [map_rows, maxLen_eq, List.length_cons, List.length_nil] at *; have := flen_le l i (fun x => decide (x.2.1 = n)); omega)
      · simp only [toNat_ofNat] at hx
        conv => whnf
        refine And.intro (fun hc2 => ?_) (fun hc2 => ?_)
        · replace hc2 := of_decide_eq_true hc2
          conv => whnf
          refine And.intro (by (simp; done)) ?_
          refine And.intro (by (simp only [map_rows, maxLen_eq, List.length_cons, List.length_nil] at *; have := flen_le l i (fun x => decide (x.2.1 = n)); omega)) ?_
          refine And.intro (by (simp only [map_rows, maxLen_eq, List.length_cons, List.length_nil] at *; have := flen_le l i (fun x => decide (x.2.1 = n)); omega)) ?_
          conv => whnf
          refine ihl0 (i + 1) _ ?_ ?_ (st_of ?_)
          · (simp only [map_rows, maxLen_eq, List.length_cons, List.length_nil] at *; have := flen_le l i (fun x => decide (x.2.1 = n)); omega)
          · (simp only [map_rows, maxLen_eq, List.length_cons, List.length_nil] at *; have := flen_le l i (fun x => decide (x.2.1 = n)); omega)
          · conv => whnf
            refine And.intro (by with_reducible rfl) ?_
            conv => whnf
            refine And.intro (by with_reducible rfl) ?_
            conv => whnf
            refine And.intro (by with_reducible rfl) ?_
            conv => whnf
            refine And.intro (by (rw [filter_at _ hx]; simp [al, *]; done)) ?_
            conv => whnf
            refine And.intro (by with_reducible rfl) ?_
            conv => whnf
            refine And.intro (by with_reducible rfl) ?_
            conv => whnf
            refine And.intro (by (simp only [wrap_i64, wrap_u64, wrap_u32, wrap_u16, wrap_u8, maxLen_eq, mmI] at *; omega)) ?_
            exact True.intro
        · replace hc2 := of_decide_eq_false hc2
          conv => whnf
          refine ihl0 (i + 1) _ ?_ ?_ (st_of ?_)
          · (simp only [map_rows, maxLen_eq, List.length_cons, List.length_nil] at *; have := flen_le l i (fun x => decide (x.2.1 = n)); omega)
          · (simp only [map_rows, maxLen_eq, List.length_cons, List.length_nil] at *; have := flen_le l i (fun x => decide (x.2.1 = n)); omega)
          · conv => whnf
            refine And.intro (by with_reducible rfl) ?_
            conv => whnf
            refine And.intro (by with_reducible rfl) ?_
            conv => whnf
            refine And.intro (by with_reducible rfl) ?_
            conv => whnf
            refine And.intro (by (rw [filter_at _ hx]; simp [al, *]; done)) ?_
            conv => whnf
            refine And.intro (by with_reducible rfl) ?_
            conv => whnf
            refine And.intro (by with_reducible rfl) ?_
            conv => whnf
            refine And.intro (by (simp only [wrap_i64, wrap_u64, wrap_u32, wrap_u16, wrap_u8, maxLen_eq, mmI] at *; omega)) ?_
            exact True.intro
    · replace hc0 := of_decide_eq_false hc0
      conv => whnf
      refine AV.of_eqv ?_
      conv => whnf
      refine And.intro (by (rw [take_end (by simp only [map_rows] at *; omega)])) ?_
      exact True.intro
def nxE (n : Int) (x : Al) : Int := if n = 0 ∨ max 1 x.2.2 < n then max 1 x.2.2 else n
def nx (l : List Al) : Int := l.foldl nxE 0
theorem nx_at {l : List Al} {i : Nat} {x : Al} (h : l[i]? = some x) : nx (l.take (i + 1)) = nxE (nx (l.take i)) x := by
  unfold nx; rw [take_at h, List.foldl_append]; rfl
theorem nx_pos (l : List Al) (h : l ≠ []) : 1 ≤ nx l := by
  have key : ∀ (l : List Al) (n : Int), 1 ≤ n → 1 ≤ l.foldl nxE n := by
    intro l
    induction l with
    | nil => intro n h; exact h
    | cons x l ih => intro n h; exact ih _ (by unfold nxE; split <;> omega)
  cases l with
  | nil => exact absurd rfl h
  | cons x l => exact key l _ (by unfold nxE; split <;> omega)
theorem nx_step {l : List Al} {i : Nat} {x : Al} (hx : l[i]? = some x) : nx (l.take (i + 1)) = if i = 0 ∨ max 1 x.2.2 < nx (l.take i) then max 1 x.2.2 else nx (l.take i) := by
  rw [nx_at hx]
  unfold nxE
  by_cases h0 : i = 0
  · subst h0
    have h1 : nx (l.take 0) = 0 := rfl
    rw [if_pos (.inl h1), if_pos (.inl rfl)]
  · have hp := nx_pos (l.take i) (by intro he; have h1 := congrArg List.length he; have h2 := lt_at hx; rw [List.length_take, List.length_nil] at h1; omega)
    have h1 : ¬ nx (l.take i) = 0 := by omega
    simp only [h0, h1, false_or]
theorem next_good (l : List Al) (hl : l.length ≤ 1000000) : Good Try.prog 38 [.sl .sh 3 (l.map al)] (.int .i64 (nx l)) := by
  apply good_at ak38 rfl rfl rfl
  conv => whnf
  refine loop_at (α := Nat) (fun i => [(9, .int .i64 (i : Int)), (3, .int .i64 (nx (l.take i)))]) (fun i => []) (fun i => i ≤ l.length) (fun i => l.length - i) (0) (st_of ?_) ?_ (by rintro i _; rfl) ?_
  · conv => whnf
    refine And.intro (by with_reducible rfl) ?_
    conv => whnf
    refine And.intro (by with_reducible rfl) ?_
    conv => whnf
    refine And.intro (by exact rfl) ?_
    conv => whnf
    refine And.intro (by with_reducible rfl) ?_
    conv => whnf
    refine And.intro (by with_reducible rfl) ?_
    conv => whnf
    refine And.intro (by decide) ?_
    exact True.intro
  · omega
  · rintro i nextl0 hIl0 ihl0
    try dsimp only at hIl0
    conv => whnf
    refine And.intro (fun hc0 => ?_) (fun hc0 => ?_)
    · replace hc0 := of_decide_eq_true hc0
      conv => whnf
      refine And.intro (by omega) ?_
      refine And.intro (by decide) ?_
      refine ex_row (l := l) ?_ fun x hx => ?_
      · (simp only [map_rows, maxLen_eq] at *; omega)
      · simp only [toNat_ofNat] at hx
        conv => whnf
        refine And.intro (fun hc2 => ?_) (fun hc2 => ?_)
        · replace hc2 := of_decide_eq_false hc2
          conv => whnf
          refine br_l rfl rfl ?_
          conv => whnf
          refine br_l rfl rfl ?_
          conv => whnf
          refine br_r rfl rfl ?_
          conv => whnf
          refine And.intro (fun hc3 => ?_) (fun hc3 => ?_)
          · replace hc3 := of_decide_eq_true hc3
            conv => whnf
            refine ihl0 (i + 1) _ ?_ ?_ (st_of ?_)
            · (simp only [map_rows, maxLen_eq] at *; omega)
            · (simp only [map_rows, maxLen_eq] at *; omega)
            · conv => whnf
              refine And.intro (by with_reducible rfl) ?_
              conv => whnf
              refine And.intro (by with_reducible rfl) ?_
              conv => whnf
              refine And.intro (by (rw [nx_step hx]; simp only [mmI] at *; split <;> omega)) ?_
              conv => whnf
              refine And.intro (by with_reducible rfl) ?_
              conv => whnf
              refine And.intro (by with_reducible rfl) ?_
              conv => whnf
              refine And.intro (by (simp only [wrap_i64, wrap_u64, wrap_u32, wrap_u16, wrap_u8, maxLen_eq, mmI] at *; omega)) ?_
              exact True.intro
          · replace hc3 := of_decide_eq_false hc3
            conv => whnf
            refine ihl0 (i + 1) _ ?_ ?_ (st_of ?_)
            · (simp only [map_rows, maxLen_eq] at *; omega)
            · (simp only [map_rows, maxLen_eq] at *; omega)
            · conv => whnf
              refine And.intro (by with_reducible rfl) ?_
              conv => whnf
              refine And.intro (by with_reducible rfl) ?_
              conv => whnf
              refine And.intro (by (rw [nx_step hx]; simp only [mmI] at *; split <;> omega)) ?_
              conv => whnf
              refine And.intro (by with_reducible rfl) ?_
              conv => whnf
              refine And.intro (by with_reducible rfl) ?_
              conv => whnf
              refine And.intro (by (simp only [wrap_i64, wrap_u64, wrap_u32, wrap_u16, wrap_u8, maxLen_eq, mmI] at *; omega)) ?_
              exact True.intro
        · replace hc2 := of_decide_eq_true hc2
          conv => whnf
          refine br_r rfl rfl ?_
          conv => whnf
          refine br_r rfl rfl ?_
          conv => whnf
          refine br_l rfl rfl ?_
          conv => whnf
          refine br_l rfl rfl ?_
          conv => whnf
          refine ihl0 (i + 1) _ ?_ ?_ (st_of ?_)
          · (simp only [map_rows, maxLen_eq] at *; omega)
          · (simp only [map_rows, maxLen_eq] at *; omega)
          · conv => whnf
            refine And.intro (by with_reducible rfl) ?_
            conv => whnf
            refine And.intro (by with_reducible rfl) ?_
            conv => whnf
            refine And.intro (by (rw [nx_step hx]; simp only [mmI] at *; split <;> omega)) ?_
            conv => whnf
            refine And.intro (by with_reducible rfl) ?_
            conv => whnf
            refine And.intro (by with_reducible rfl) ?_
            conv => whnf
            refine And.intro (by (simp only [wrap_i64, wrap_u64, wrap_u32, wrap_u16, wrap_u8, maxLen_eq, mmI] at *; omega)) ?_
            exact True.intro
    · replace hc0 := of_decide_eq_false hc0
      conv => whnf
      refine AV.of_eqv ?_
      conv => whnf
      refine And.intro (by (rw [take_end (by simp only [map_rows] at *; omega)])) ?_
      exact True.intro
theorem rnext_good (l : List Al) (hl : l.length ≤ 1000000) : Good Try.prog 39 [.sl .sh 3 (l.map al)] (.int .i64 (nx l)) := by
  apply good_at ak39 rfl rfl rfl
  conv => whnf
  refine loop_at (α := Nat) (fun i => [(9, .int .i64 (i : Int)), (3, .int .i64 (nx (l.take i)))]) (fun i => []) (fun i => i ≤ l.length) (fun i => l.length - i) (0) (st_of ?_) ?_ (by rintro i _; rfl) ?_
  · conv => whnf
    refine And.intro (by with_reducible rfl) ?_
    conv => whnf
    refine And.intro (by with_reducible rfl) ?_
    conv => whnf
    refine And.intro (by exact rfl) ?_
    conv => whnf
    refine And.intro (by with_reducible rfl) ?_
    conv => whnf
    refine And.intro (by with_reducible rfl) ?_
    conv => whnf
    refine And.intro (by decide) ?_
    exact True.intro
  · omega
  · rintro i nextl0 hIl0 ihl0
    try dsimp only at hIl0
    conv => whnf
    refine And.intro (fun hc0 => ?_) (fun hc0 => ?_)
    · replace hc0 := of_decide_eq_true hc0
      conv => whnf
      refine And.intro (by omega) ?_
      refine And.intro (by decide) ?_
      refine ex_row (l := l) ?_ fun x hx => ?_
      · (simp only [map_rows, maxLen_eq] at *; omega)
      · simp only [toNat_ofNat] at hx
        conv => whnf
        refine And.intro (fun hc2 => ?_) (fun hc2 => ?_)
        · replace hc2 := of_decide_eq_false hc2
          conv => whnf
          refine br_l rfl rfl ?_
          conv => whnf
          refine br_l rfl rfl ?_
          conv => whnf
          refine br_r rfl rfl ?_
          conv => whnf
          refine And.intro (fun hc3 => ?_) (fun hc3 => ?_)
          · replace hc3 := of_decide_eq_true hc3
            conv => whnf
            refine ihl0 (i + 1) _ ?_ ?_ (st_of ?_)
            · (simp only [map_rows, maxLen_eq] at *; omega)
            · (simp only [map_rows, maxLen_eq] at *; omega)
            · conv => whnf
              refine And.intro (by with_reducible rfl) ?_
              conv => whnf
              refine And.intro (by with_reducible rfl) ?_
              conv => whnf
              refine And.intro (by (rw [nx_at hx]; unfold nxE; simp only [mmI] at *; split <;> omega)) ?_
              conv => whnf
              refine And.intro (by with_reducible rfl) ?_
              conv => whnf
              refine And.intro (by with_reducible rfl) ?_
              conv => whnf
              refine And.intro (by (simp only [wrap_i64, wrap_u64, wrap_u32, wrap_u16, wrap_u8, maxLen_eq, mmI] at *; omega)) ?_
              exact True.intro
          · replace hc3 := of_decide_eq_false hc3
            conv => whnf
            refine ihl0 (i + 1) _ ?_ ?_ (st_of ?_)
            · (simp only [map_rows, maxLen_eq] at *; omega)
            · (simp only [map_rows, maxLen_eq] at *; omega)
            · conv => whnf
              refine And.intro (by with_reducible rfl) ?_
              conv => whnf
              refine And.intro (by with_reducible rfl) ?_
              conv => whnf
              refine And.intro (by (rw [nx_at hx]; unfold nxE; simp only [mmI] at *; split <;> omega)) ?_
              conv => whnf
              refine And.intro (by with_reducible rfl) ?_
              conv => whnf
              refine And.intro (by with_reducible rfl) ?_
              conv => whnf
              refine And.intro (by (simp only [wrap_i64, wrap_u64, wrap_u32, wrap_u16, wrap_u8, maxLen_eq, mmI] at *; omega)) ?_
              exact True.intro
        · replace hc2 := of_decide_eq_true hc2
          conv => whnf
          refine br_r rfl rfl ?_
          conv => whnf
          refine br_r rfl rfl ?_
          conv => whnf
          refine br_l rfl rfl ?_
          conv => whnf
          refine br_l rfl rfl ?_
          conv => whnf
          refine ihl0 (i + 1) _ ?_ ?_ (st_of ?_)
          · (simp only [map_rows, maxLen_eq] at *; omega)
          · (simp only [map_rows, maxLen_eq] at *; omega)
          · conv => whnf
            refine And.intro (by with_reducible rfl) ?_
            conv => whnf
            refine And.intro (by with_reducible rfl) ?_
            conv => whnf
            refine And.intro (by (rw [nx_at hx]; unfold nxE; simp only [mmI] at *; split <;> omega)) ?_
            conv => whnf
            refine And.intro (by with_reducible rfl) ?_
            conv => whnf
            refine And.intro (by with_reducible rfl) ?_
            conv => whnf
            refine And.intro (by (simp only [wrap_i64, wrap_u64, wrap_u32, wrap_u16, wrap_u8, maxLen_eq, mmI] at *; omega)) ?_
            exact True.intro
    · replace hc0 := of_decide_eq_false hc0
      conv => whnf
      refine AV.of_eqv ?_
      conv => whnf
      refine And.intro (by (rw [take_end (by simp only [map_rows] at *; omega)])) ?_
      exact True.intro
def runT : Nat → List Al → List Al × List Al
  | 0, l => (l, [])
  | n + 1, l => ((runT n l).1.filterMap onE, (runT n l).2 ++ (runT n l).1.filterMap offE)
theorem tick_len (l : List Al) : (l.filterMap onE).length + (l.filterMap offE).length = l.length := by
  induction l with
  | nil => rfl
  | cons x l ih =>
    rw [List.filterMap_cons, List.filterMap_cons]
    unfold onE offE at *
    by_cases h : 1 < x.2.2
    · simp only [if_pos h, List.length_cons]; omega
    · simp only [if_neg h, List.length_cons]; omega
theorem runs_len (n : Nat) (l : List Al) : (runT n l).1.length + (runT n l).2.length = l.length := by
  induction n with
  | zero => simp [runT]
  | succ n ih => simp only [runT, List.length_append]; have := tick_len (runT n l).1; omega
theorem runs_nil {n : Nat} {l : List Al} (h : (runT n l).1 = []) (k : Nat) : runT (n + k) l = runT n l := by
  induction k with
  | zero => rfl
  | succ k ih =>
    have e : runT (n + (k + 1)) l = ((runT (n + k) l).1.filterMap onE, (runT (n + k) l).2 ++ (runT (n + k) l).1.filterMap offE) := rfl
    rw [e, ih, h, List.filterMap_nil, List.filterMap_nil, List.append_nil, ← h]
theorem runT_stop {i N : Nat} {l : List Al} (hle : i ≤ N) (h : ((runT i l).1.length : Int) = 0) : runT N l = runT i l := by
  obtain ⟨k, rfl⟩ := Nat.le.dest hle
  exact runs_nil (List.eq_nil_of_length_eq_zero (by omega)) k
theorem run_good (l : List Al) (t : Int) (hl : l.length ≤ 1000000) : Good Try.prog 33 [.sl .sh 3 (l.map al), .int .i64 t] (.tuple [.sl .own 3 ((runT (min t 1000).toNat l).1.map al), .sl .own 3 ((runT (min t 1000).toNat l).2.map al)]) := by
  apply good_at ak33 rfl rfl rfl
  conv => whnf
  refine And.intro (by (simp; done)) ?_
  refine And.intro (by (simp only [map_rows, maxLen_eq, List.length_nil] at *; omega)) ?_
  refine And.intro (by (simp only [map_rows, maxLen_eq, List.length_nil] at *; omega)) ?_
  conv => whnf
  refine loop_at (α := Nat) (fun i => [(14, .int .i64 (i : Int)), (6, .sl .own 3 ((runT i l).1.map al)), (7, .sl .own 3 ((runT i l).2.map al))]) (fun i => []) (fun i => i ≤ (min t 1000).toNat) (fun i => (min t 1000).toNat - i) (0) (st_of ?_) ?_ (by rintro i _; rfl) ?_
  · conv => whnf
    refine And.intro (by with_reducible rfl) ?_
    conv => whnf
    refine And.intro (by with_reducible rfl) ?_
    conv => whnf
    refine And.intro (by with_reducible rfl) ?_
    conv => whnf
    refine And.intro (by with_reducible rfl) ?_
    conv => whnf
    refine And.intro (by exact rfl) ?_
    conv => whnf
    refine And.intro (by exact rfl) ?_
    conv => whnf
    refine And.intro (by with_reducible rfl) ?_
    conv => whnf
    refine And.intro (by with_reducible rfl) ?_
    conv => whnf
    refine And.intro (by with_reducible rfl) ?_
    conv => whnf
    refine And.intro (by with_reducible rfl) ?_
    conv => whnf
    refine And.intro (by with_reducible rfl) ?_
    conv => whnf
    refine And.intro (by decide) ?_
    exact True.intro
  · omega
  · rintro i nextl0 hIl0 ihl0
    try dsimp only at hIl0
    conv => whnf
    refine And.intro (fun hc0 => ?_) (fun hc0 => ?_)
    · replace hc0 := of_decide_eq_true hc0
      conv => whnf
      refine And.intro (fun hc1 => ?_) (fun hc1 => ?_)
      · replace hc1 := of_decide_eq_true hc1
        conv => whnf
        refine AV.of_eqv ?_
        conv => whnf
        refine And.intro (by (rw [runT_stop hIl0 (by simpa using hc1)])) ?_
        conv => whnf
        refine And.intro (by (rw [runT_stop hIl0 (by simpa using hc1)])) ?_
        exact True.intro
      · replace hc1 := of_decide_eq_false hc1
        conv => whnf
        refine ⟨_, tick_good _ ?_, ?_⟩
        · (simp only [mmI] at *; have := runs_len i l; omega)
        · conv => whnf
          refine And.intro (by (simp; done)) ?_
          refine And.intro (by (simp only [map_rows, maxLen_eq]; have := runs_len i l; have := tick_len (runT i l).1; omega)) ?_
          refine And.intro (by (simp only [map_rows, maxLen_eq]; have := runs_len i l; have := tick_len (runT i l).1; omega)) ?_
          conv => whnf
          refine ihl0 (i + 1) _ ?_ ?_ (st_of ?_)
          · (simp only [mmI] at *; have := runs_len i l; omega)
          · (simp only [mmI] at *; have := runs_len i l; omega)
          · conv => whnf
            refine And.intro (by with_reducible rfl) ?_
            conv => whnf
            refine And.intro (by with_reducible rfl) ?_
            conv => whnf
            refine And.intro (by with_reducible rfl) ?_
            conv => whnf
            refine And.intro (by with_reducible rfl) ?_
            conv => whnf
            refine And.intro (by (simp only [runT, List.map_append]; done)) ?_
            conv => whnf
            refine And.intro (by (simp only [runT, List.map_append]; done)) ?_
            conv => whnf
            refine And.intro (by with_reducible rfl) ?_
            conv => whnf
            refine And.intro (by with_reducible rfl) ?_
            conv => whnf
            refine And.intro (by with_reducible rfl) ?_
            conv => whnf
            refine And.intro (by with_reducible rfl) ?_
            conv => whnf
            refine And.intro (by with_reducible rfl) ?_
            conv => whnf
            refine And.intro (by (simp only [wrap_i64, wrap_u64, wrap_u32, wrap_u16, wrap_u8, maxLen_eq, mmI] at *; omega)) ?_
            exact True.intro
    · replace hc0 := of_decide_eq_false hc0
      conv => whnf
      refine AV.of_eqv ?_
      conv => whnf
      refine And.intro (by (rw [show i = (min t 1000).toNat by simp only [mmI] at *; omega])) ?_
      conv => whnf
      refine And.intro (by (rw [show i = (min t 1000).toNat by simp only [mmI] at *; omega])) ?_
      exact True.intro
theorem rrun_good (l : List Al) (t : Int) (hl : l.length ≤ 1000000) : Good Try.prog 34 [.sl .sh 3 (l.map al), .int .i64 t] (.tuple [.sl .sh 3 ((runT (min t 1000).toNat l).1.map al), .sl .own 3 ((runT (min t 1000).toNat l).2.map al)]) := by
  apply good_at ak34 rfl rfl rfl
  conv => whnf
  refine loop_at (α := Nat) (fun i => [(12, .int .i64 (i : Int)), (0, .sl .sh 3 ((runT i l).1.map al)), (6, .sl .own 3 ((runT i l).2.map al))]) (fun i => []) (fun i => i ≤ (min t 1000).toNat) (fun i => (min t 1000).toNat - i) (0) (st_of ?_) ?_ (by rintro i _; rfl) ?_
  · conv => whnf
    refine And.intro (by (simp only [runT, List.map_append]; done)) ?_
    conv => whnf
    refine And.intro (by with_reducible rfl) ?_
    conv => whnf
    refine And.intro (by with_reducible rfl) ?_
    conv => whnf
    refine And.intro (by with_reducible rfl) ?_
    conv => whnf
    refine And.intro (by exact rfl) ?_
    conv => whnf
    refine And.intro (by with_reducible rfl) ?_
    conv => whnf
    refine And.intro (by with_reducible rfl) ?_
    conv => whnf
    refine And.intro (by with_reducible rfl) ?_
    conv => whnf
    refine And.intro (by decide) ?_
    exact True.intro
  · omega
  · rintro i nextl0 hIl0 ihl0
    try dsimp only at hIl0
    conv => whnf
    refine And.intro (fun hc0 => ?_) (fun hc0 => ?_)
    · replace hc0 := of_decide_eq_true hc0
      conv => whnf
      refine ⟨_, rtick_good _ ?_, ?_⟩
      · (simp only [mmI] at *; have := runs_len i l; omega)
      · conv => whnf
        refine And.intro (by (simp; done)) ?_
        refine And.intro (by (simp only [map_rows, maxLen_eq]; have := runs_len i l; have := tick_len (runT i l).1; omega)) ?_
        refine And.intro (by (simp only [map_rows, maxLen_eq]; have := runs_len i l; have := tick_len (runT i l).1; omega)) ?_
        conv => whnf
        refine ihl0 (i + 1) _ ?_ ?_ (st_of ?_)
        · (simp only [mmI] at *; have := runs_len i l; omega)
        · (simp only [mmI] at *; have := runs_len i l; omega)
        · conv => whnf
          refine And.intro (by (simp only [runT, List.map_append]; done)) ?_
          conv => whnf
          refine And.intro (by with_reducible rfl) ?_
          conv => whnf
          refine And.intro (by with_reducible rfl) ?_
          conv => whnf
          refine And.intro (by with_reducible rfl) ?_
          conv => whnf
          refine And.intro (by (simp only [runT, List.map_append]; done)) ?_
          conv => whnf
          refine And.intro (by with_reducible rfl) ?_
          conv => whnf
          refine And.intro (by with_reducible rfl) ?_
          conv => whnf
          refine And.intro (by with_reducible rfl) ?_
          conv => whnf
          refine And.intro (by (simp only [wrap_i64, wrap_u64, wrap_u32, wrap_u16, wrap_u8, maxLen_eq, mmI] at *; omega)) ?_
          exact True.intro
    · replace hc0 := of_decide_eq_false hc0
      conv => whnf
      refine AV.of_eqv ?_
      conv => whnf
      refine And.intro (by (rw [show i = (min t 1000).toNat by simp only [mmI] at *; omega])) ?_
      conv => whnf
      refine And.intro (by (rw [show i = (min t 1000).toNat by simp only [mmI] at *; omega])) ?_
      exact True.intro
theorem awake13_good : Good Try.prog 32 [] (.bool true) := by
  apply good_at ak32 rfl rfl rfl
  conv => whnf
  apply ex_and
  · apply good_at ak29 rfl rfl rfl
    conv => whnf
    apply ex_and
    · apply good_at ak94 rfl rfl rfl
      conv => whnf
      refine br_l rfl rfl ?_
      conv => whnf
      refine br_l rfl rfl ?_
      conv => whnf
      refine br_l rfl rfl ?_
      conv => whnf
      refine br_l rfl rfl ?_
      conv => whnf
      refine br_l rfl rfl ?_
      conv => whnf
      refine br_l rfl rfl ?_
      conv => whnf
      refine br_l rfl rfl ?_
      conv => whnf
      apply ex_and
      · apply good_at ak126 rfl rfl rfl
        conv => whnf
        refine br_l rfl rfl ?_
        conv => whnf
        refine br_l rfl rfl ?_
        conv => whnf
        refine br_l rfl rfl ?_
        (conv => whnf) <;> with_reducible rfl
      · conv => whnf
        refine br_l rfl rfl ?_
        conv => whnf
        refine br_l rfl rfl ?_
        conv => whnf
        refine br_l rfl rfl ?_
        conv => whnf
        refine br_l rfl rfl ?_
        conv => whnf
        refine br_l rfl rfl ?_
        conv => whnf
        refine br_l rfl rfl ?_
        conv => whnf
        refine br_l rfl rfl ?_
        conv => whnf
        refine br_l rfl rfl ?_
        conv => whnf
        refine br_l rfl rfl ?_
        (conv => whnf) <;> with_reducible rfl
    · conv => whnf
      refine br_r rfl rfl ?_
      conv => whnf
      refine loop_run 300 ?_
      conv => whnf
      refine And.intro (by decide) ?_
      conv => whnf
      refine br_r rfl rfl ?_
      conv => whnf
      refine And.intro (by decide) ?_
      conv => whnf
      refine And.intro (by decide) ?_
      refine And.intro (by decide) ?_
      refine And.intro (by decide) ?_
      conv => whnf
      apply ex_and
      · apply good_at ak96 rfl rfl rfl
        conv => whnf
        refine loop_run 300 ?_
        conv => whnf
        refine And.intro (by decide) ?_
        conv => whnf
        refine br_r rfl rfl ?_
        (conv => whnf) <;> with_reducible rfl
      · conv => whnf
        refine And.intro (by decide) ?_
        refine And.intro (by decide) ?_
        refine And.intro (by decide) ?_
        conv => whnf
        refine And.intro (by decide) ?_
        conv => whnf
        refine And.intro (by decide) ?_
        refine And.intro (by decide) ?_
        refine And.intro (by decide) ?_
        conv => whnf
        apply ex_and
        · apply good_at ak96 rfl rfl rfl
          conv => whnf
          refine loop_run 300 ?_
          conv => whnf
          refine And.intro (by decide) ?_
          conv => whnf
          refine br_r rfl rfl ?_
          (conv => whnf) <;> with_reducible rfl
        · conv => whnf
          refine And.intro (by decide) ?_
          refine And.intro (by decide) ?_
          refine And.intro (by decide) ?_
          (conv => whnf) <;> with_reducible rfl
  · conv => whnf
    apply ex_and
    · apply good_at ak29 rfl rfl rfl
      conv => whnf
      apply ex_and
      · apply good_at ak94 rfl rfl rfl
        conv => whnf
        refine br_l rfl rfl ?_
        conv => whnf
        refine br_l rfl rfl ?_
        conv => whnf
        refine br_l rfl rfl ?_
        conv => whnf
        refine br_l rfl rfl ?_
        conv => whnf
        refine br_l rfl rfl ?_
        conv => whnf
        refine br_l rfl rfl ?_
        conv => whnf
        refine br_l rfl rfl ?_
        conv => whnf
        apply ex_and
        · apply good_at ak126 rfl rfl rfl
          conv => whnf
          refine br_l rfl rfl ?_
          conv => whnf
          refine br_l rfl rfl ?_
          conv => whnf
          refine br_l rfl rfl ?_
          (conv => whnf) <;> with_reducible rfl
        · conv => whnf
          refine br_l rfl rfl ?_
          conv => whnf
          refine br_l rfl rfl ?_
          conv => whnf
          refine br_l rfl rfl ?_
          conv => whnf
          refine br_l rfl rfl ?_
          conv => whnf
          refine br_l rfl rfl ?_
          conv => whnf
          refine br_l rfl rfl ?_
          conv => whnf
          refine br_l rfl rfl ?_
          conv => whnf
          refine br_l rfl rfl ?_
          conv => whnf
          refine br_l rfl rfl ?_
          (conv => whnf) <;> with_reducible rfl
      · conv => whnf
        refine br_r rfl rfl ?_
        conv => whnf
        refine loop_run 300 ?_
        conv => whnf
        refine And.intro (by decide) ?_
        conv => whnf
        refine br_l rfl rfl ?_
        conv => whnf
        refine And.intro (by decide) ?_
        refine And.intro (by decide) ?_
        with_reducible refine ⟨_, rfl, ?_⟩
        conv => whnf
        apply ex_and
        · apply good_at ak95 rfl rfl rfl
          conv => whnf
          refine br_l rfl rfl ?_
          (conv => whnf) <;> with_reducible rfl
        · conv => whnf
          refine br_l rfl rfl ?_
          conv => whnf
          refine And.intro (by decide) ?_
          conv => whnf
          refine And.intro (by decide) ?_
          refine And.intro (by decide) ?_
          refine And.intro (by decide) ?_
          conv => whnf
          apply ex_and
          · apply good_at ak96 rfl rfl rfl
            conv => whnf
            refine loop_run 300 ?_
            conv => whnf
            refine And.intro (by decide) ?_
            conv => whnf
            refine br_r rfl rfl ?_
            (conv => whnf) <;> with_reducible rfl
          · conv => whnf
            refine And.intro (by decide) ?_
            refine And.intro (by decide) ?_
            refine And.intro (by decide) ?_
            conv => whnf
            refine And.intro (by decide) ?_
            conv => whnf
            refine And.intro (by decide) ?_
            refine And.intro (by decide) ?_
            refine And.intro (by decide) ?_
            conv => whnf
            apply ex_and
            · apply good_at ak96 rfl rfl rfl
              conv => whnf
              refine loop_run 300 ?_
              conv => whnf
              refine And.intro (by decide) ?_
              conv => whnf
              refine br_l rfl rfl ?_
              conv => whnf
              refine And.intro (by decide) ?_
              refine And.intro (by decide) ?_
              with_reducible refine ⟨_, rfl, ?_⟩
              conv => whnf
              refine br_r rfl rfl ?_
              conv => whnf
              refine br_r rfl rfl ?_
              conv => whnf
              refine br_r rfl rfl ?_
              conv => whnf
              refine br_r rfl rfl ?_
              conv => whnf
              refine br_r rfl rfl ?_
              conv => whnf
              refine br_r rfl rfl ?_
              conv => whnf
              refine And.intro (by decide) ?_
              refine And.intro (by decide) ?_
              refine And.intro (by decide) ?_
              conv => whnf
              refine And.intro (by decide) ?_
              conv => whnf
              refine br_r rfl rfl ?_
              (conv => whnf) <;> with_reducible rfl
            · conv => whnf
              refine And.intro (by decide) ?_
              refine And.intro (by decide) ?_
              refine And.intro (by decide) ?_
              (conv => whnf) <;> with_reducible rfl
    · conv => whnf
      apply ex_and
      · apply good_at ak29 rfl rfl rfl
        conv => whnf
        apply ex_and
        · apply good_at ak94 rfl rfl rfl
          conv => whnf
          refine br_l rfl rfl ?_
          conv => whnf
          refine br_l rfl rfl ?_
          conv => whnf
          refine br_l rfl rfl ?_
          conv => whnf
          refine br_l rfl rfl ?_
          conv => whnf
          refine br_l rfl rfl ?_
          conv => whnf
          refine br_l rfl rfl ?_
          conv => whnf
          refine br_l rfl rfl ?_
          conv => whnf
          apply ex_and
          · apply good_at ak126 rfl rfl rfl
            conv => whnf
            refine br_l rfl rfl ?_
            conv => whnf
            refine br_l rfl rfl ?_
            conv => whnf
            refine br_l rfl rfl ?_
            (conv => whnf) <;> with_reducible rfl
          · conv => whnf
            refine br_l rfl rfl ?_
            conv => whnf
            refine br_l rfl rfl ?_
            conv => whnf
            refine br_l rfl rfl ?_
            conv => whnf
            refine br_l rfl rfl ?_
            conv => whnf
            refine br_l rfl rfl ?_
            conv => whnf
            refine br_l rfl rfl ?_
            conv => whnf
            refine br_l rfl rfl ?_
            conv => whnf
            refine br_l rfl rfl ?_
            conv => whnf
            refine br_l rfl rfl ?_
            (conv => whnf) <;> with_reducible rfl
        · conv => whnf
          refine br_r rfl rfl ?_
          conv => whnf
          refine loop_run 300 ?_
          conv => whnf
          refine And.intro (by decide) ?_
          conv => whnf
          refine br_l rfl rfl ?_
          conv => whnf
          refine And.intro (by decide) ?_
          refine And.intro (by decide) ?_
          with_reducible refine ⟨_, rfl, ?_⟩
          conv => whnf
          apply ex_and
          · apply good_at ak95 rfl rfl rfl
            conv => whnf
            refine br_l rfl rfl ?_
            (conv => whnf) <;> with_reducible rfl
          · conv => whnf
            refine br_r rfl rfl ?_
            conv => whnf
            refine And.intro (by decide) ?_
            conv => whnf
            refine br_l rfl rfl ?_
            conv => whnf
            refine And.intro (by decide) ?_
            refine And.intro (by decide) ?_
            with_reducible refine ⟨_, rfl, ?_⟩
            conv => whnf
            apply ex_and
            · apply good_at ak95 rfl rfl rfl
              conv => whnf
              refine br_r rfl rfl ?_
              (conv => whnf) <;> with_reducible rfl
            · conv => whnf
              refine br_l rfl rfl ?_
              conv => whnf
              refine And.intro (by decide) ?_
              conv => whnf
              refine And.intro (by decide) ?_
              refine And.intro (by decide) ?_
              refine And.intro (by decide) ?_
              conv => whnf
              apply ex_and
              · apply good_at ak96 rfl rfl rfl
                conv => whnf
                refine loop_run 300 ?_
                conv => whnf
                refine And.intro (by decide) ?_
                conv => whnf
                refine br_l rfl rfl ?_
                conv => whnf
                refine And.intro (by decide) ?_
                refine And.intro (by decide) ?_
                with_reducible refine ⟨_, rfl, ?_⟩
                conv => whnf
                refine br_r rfl rfl ?_
                conv => whnf
                refine br_r rfl rfl ?_
                conv => whnf
                refine br_r rfl rfl ?_
                conv => whnf
                refine br_r rfl rfl ?_
                conv => whnf
                refine br_r rfl rfl ?_
                conv => whnf
                refine br_r rfl rfl ?_
                conv => whnf
                refine And.intro (by decide) ?_
                refine And.intro (by decide) ?_
                refine And.intro (by decide) ?_
                conv => whnf
                refine And.intro (by decide) ?_
                conv => whnf
                refine br_r rfl rfl ?_
                (conv => whnf) <;> with_reducible rfl
              · conv => whnf
                refine And.intro (by decide) ?_
                refine And.intro (by decide) ?_
                refine And.intro (by decide) ?_
                conv => whnf
                refine And.intro (by decide) ?_
                conv => whnf
                refine And.intro (by decide) ?_
                refine And.intro (by decide) ?_
                refine And.intro (by decide) ?_
                conv => whnf
                apply ex_and
                · apply good_at ak96 rfl rfl rfl
                  conv => whnf
                  refine loop_run 300 ?_
                  conv => whnf
                  refine And.intro (by decide) ?_
                  conv => whnf
                  refine br_l rfl rfl ?_
                  conv => whnf
                  refine And.intro (by decide) ?_
                  refine And.intro (by decide) ?_
                  with_reducible refine ⟨_, rfl, ?_⟩
                  conv => whnf
                  refine br_l rfl rfl ?_
                  conv => whnf
                  refine br_l rfl rfl ?_
                  conv => whnf
                  refine br_l rfl rfl ?_
                  conv => whnf
                  refine br_l rfl rfl ?_
                  conv => whnf
                  refine br_l rfl rfl ?_
                  conv => whnf
                  refine br_l rfl rfl ?_
                  conv => whnf
                  refine And.intro (by decide) ?_
                  conv => whnf
                  refine br_r rfl rfl ?_
                  (conv => whnf) <;> with_reducible rfl
                · conv => whnf
                  refine And.intro (by decide) ?_
                  refine And.intro (by decide) ?_
                  refine And.intro (by decide) ?_
                  (conv => whnf) <;> with_reducible rfl
      · conv => whnf
        apply ex_and
        · apply good_at ak29 rfl rfl rfl
          conv => whnf
          apply ex_and
          · apply good_at ak94 rfl rfl rfl
            conv => whnf
            refine br_l rfl rfl ?_
            conv => whnf
            refine br_l rfl rfl ?_
            conv => whnf
            refine br_l rfl rfl ?_
            conv => whnf
            refine br_l rfl rfl ?_
            conv => whnf
            refine br_r rfl rfl ?_
            conv => whnf
            refine br_r rfl rfl ?_
            conv => whnf
            refine br_r rfl rfl ?_
            conv => whnf
            refine br_r rfl rfl ?_
            conv => whnf
            refine br_r rfl rfl ?_
            conv => whnf
            refine br_r rfl rfl ?_
            conv => whnf
            refine br_r rfl rfl ?_
            conv => whnf
            refine br_r rfl rfl ?_
            conv => whnf
            refine br_r rfl rfl ?_
            conv => whnf
            refine br_r rfl rfl ?_
            conv => whnf
            refine br_r rfl rfl ?_
            conv => whnf
            refine br_r rfl rfl ?_
            (conv => whnf) <;> with_reducible rfl
          · conv => whnf
            refine br_l rfl rfl ?_
            (conv => whnf) <;> with_reducible rfl
        · conv => whnf
          apply ex_and
          · apply good_at ak30 rfl rfl rfl
            conv => whnf
            refine loop_run 300 ?_
            conv => whnf
            refine And.intro (by decide) ?_
            conv => whnf
            refine br_l rfl rfl ?_
            conv => whnf
            refine And.intro (by decide) ?_
            refine And.intro (by decide) ?_
            with_reducible refine ⟨_, rfl, ?_⟩
            conv => whnf
            refine br_r rfl rfl ?_
            conv => whnf
            refine And.intro (by decide) ?_
            refine And.intro (by decide) ?_
            refine And.intro (by decide) ?_
            conv => whnf
            refine And.intro (by decide) ?_
            conv => whnf
            refine br_l rfl rfl ?_
            conv => whnf
            refine And.intro (by decide) ?_
            refine And.intro (by decide) ?_
            with_reducible refine ⟨_, rfl, ?_⟩
            conv => whnf
            refine br_l rfl rfl ?_
            conv => whnf
            refine And.intro (by decide) ?_
            refine And.intro (by decide) ?_
            refine And.intro (by decide) ?_
            conv => whnf
            refine And.intro (by decide) ?_
            conv => whnf
            refine br_r rfl rfl ?_
            (conv => whnf) <;> with_reducible rfl
          · conv => whnf
            refine br_l rfl rfl ?_
            conv => whnf
            refine br_l rfl rfl ?_
            conv => whnf
            refine br_l rfl rfl ?_
            conv => whnf
            refine br_r rfl rfl ?_
            conv => whnf
            refine br_l rfl rfl ?_
            conv => whnf
            refine br_l rfl rfl ?_
            conv => whnf
            refine br_l rfl rfl ?_
            conv => whnf
            refine br_r rfl rfl ?_
            conv => whnf
            refine br_r rfl rfl ?_
            conv => whnf
            refine br_l rfl rfl ?_
            conv => whnf
            refine br_l rfl rfl ?_
            conv => whnf
            refine br_l rfl rfl ?_
            conv => whnf
            refine br_l rfl rfl ?_
            conv => whnf
            refine br_l rfl rfl ?_
            conv => whnf
            refine And.intro (by decide) ?_
            refine And.intro (by decide) ?_
            with_reducible refine ⟨_, rfl, ?_⟩
            conv => whnf
            refine br_l rfl rfl ?_
            conv => whnf
            refine br_l rfl rfl ?_
            conv => whnf
            refine br_l rfl rfl ?_
            conv => whnf
            refine br_l rfl rfl ?_
            conv => whnf
            refine br_l rfl rfl ?_
            conv => whnf
            refine br_l rfl rfl ?_
            conv => whnf
            refine And.intro (by decide) ?_
            refine And.intro (by decide) ?_
            with_reducible refine ⟨_, rfl, ?_⟩
            conv => whnf
            refine br_l rfl rfl ?_
            conv => whnf
            refine br_l rfl rfl ?_
            conv => whnf
            refine br_l rfl rfl ?_
            conv => whnf
            refine br_l rfl rfl ?_
            conv => whnf
            refine br_l rfl rfl ?_
            conv => whnf
            refine br_l rfl rfl ?_
            conv => whnf
            refine And.intro (by decide) ?_
            refine And.intro (by decide) ?_
            with_reducible refine ⟨_, rfl, ?_⟩
            conv => whnf
            refine br_l rfl rfl ?_
            conv => whnf
            refine br_l rfl rfl ?_
            conv => whnf
            refine br_l rfl rfl ?_
            conv => whnf
            refine br_l rfl rfl ?_
            conv => whnf
            refine br_l rfl rfl ?_
            conv => whnf
            refine br_l rfl rfl ?_
            conv => whnf
            refine And.intro (by decide) ?_
            refine And.intro (by decide) ?_
            with_reducible refine ⟨_, rfl, ?_⟩
            conv => whnf
            refine br_l rfl rfl ?_
            conv => whnf
            refine br_l rfl rfl ?_
            conv => whnf
            refine br_l rfl rfl ?_
            conv => whnf
            refine br_l rfl rfl ?_
            conv => whnf
            refine br_l rfl rfl ?_
            conv => whnf
            refine br_l rfl rfl ?_
            conv => whnf
            apply ex_and
            · apply good_at ak31 rfl rfl rfl
              conv => whnf
              refine loop_run 300 ?_
              conv => whnf
              refine And.intro (by decide) ?_
              conv => whnf
              refine br_l rfl rfl ?_
              conv => whnf
              refine And.intro (by decide) ?_
              refine And.intro (by decide) ?_
              with_reducible refine ⟨_, rfl, ?_⟩
              conv => whnf
              refine br_r rfl rfl ?_
              conv => whnf
              refine br_r rfl rfl ?_
              conv => whnf
              refine br_r rfl rfl ?_
              conv => whnf
              refine br_r rfl rfl ?_
              conv => whnf
              refine br_r rfl rfl ?_
              conv => whnf
              refine br_r rfl rfl ?_
              conv => whnf
              refine And.intro (by decide) ?_
              conv => whnf
              refine br_l rfl rfl ?_
              conv => whnf
              refine And.intro (by decide) ?_
              refine And.intro (by decide) ?_
              with_reducible refine ⟨_, rfl, ?_⟩
              conv => whnf
              refine br_l rfl rfl ?_
              conv => whnf
              refine br_l rfl rfl ?_
              conv => whnf
              refine br_l rfl rfl ?_
              conv => whnf
              refine br_l rfl rfl ?_
              conv => whnf
              refine br_l rfl rfl ?_
              conv => whnf
              refine br_l rfl rfl ?_
              (conv => whnf) <;> with_reducible rfl
            · conv => whnf
              refine br_l rfl rfl ?_
              conv => whnf
              refine br_l rfl rfl ?_
              conv => whnf
              refine br_l rfl rfl ?_
              conv => whnf
              refine br_l rfl rfl ?_
              conv => whnf
              apply ex_and
              · apply good_at ak31 rfl rfl rfl
                conv => whnf
                refine loop_run 300 ?_
                conv => whnf
                refine And.intro (by decide) ?_
                conv => whnf
                refine br_l rfl rfl ?_
                conv => whnf
                refine And.intro (by decide) ?_
                refine And.intro (by decide) ?_
                with_reducible refine ⟨_, rfl, ?_⟩
                conv => whnf
                refine br_r rfl rfl ?_
                conv => whnf
                refine br_r rfl rfl ?_
                conv => whnf
                refine br_r rfl rfl ?_
                conv => whnf
                refine br_r rfl rfl ?_
                conv => whnf
                refine br_r rfl rfl ?_
                conv => whnf
                refine br_r rfl rfl ?_
                conv => whnf
                refine And.intro (by decide) ?_
                conv => whnf
                refine br_l rfl rfl ?_
                conv => whnf
                refine And.intro (by decide) ?_
                refine And.intro (by decide) ?_
                with_reducible refine ⟨_, rfl, ?_⟩
                conv => whnf
                refine br_l rfl rfl ?_
                conv => whnf
                refine br_l rfl rfl ?_
                conv => whnf
                refine br_l rfl rfl ?_
                conv => whnf
                refine br_l rfl rfl ?_
                conv => whnf
                refine br_l rfl rfl ?_
                conv => whnf
                refine br_r rfl rfl ?_
                conv => whnf
                refine And.intro (by decide) ?_
                conv => whnf
                refine br_r rfl rfl ?_
                (conv => whnf) <;> with_reducible rfl
              · conv => whnf
                refine br_l rfl rfl ?_
                conv => whnf
                refine br_l rfl rfl ?_
                conv => whnf
                refine br_l rfl rfl ?_
                conv => whnf
                refine br_l rfl rfl ?_
                conv => whnf
                apply ex_and
                · apply good_at ak96 rfl rfl rfl
                  conv => whnf
                  refine loop_run 300 ?_
                  conv => whnf
                  refine And.intro (by decide) ?_
                  conv => whnf
                  refine br_l rfl rfl ?_
                  conv => whnf
                  refine And.intro (by decide) ?_
                  refine And.intro (by decide) ?_
                  with_reducible refine ⟨_, rfl, ?_⟩
                  conv => whnf
                  refine br_l rfl rfl ?_
                  conv => whnf
                  refine br_l rfl rfl ?_
                  conv => whnf
                  refine br_l rfl rfl ?_
                  conv => whnf
                  refine br_l rfl rfl ?_
                  conv => whnf
                  refine br_l rfl rfl ?_
                  conv => whnf
                  refine br_l rfl rfl ?_
                  conv => whnf
                  refine And.intro (by decide) ?_
                  conv => whnf
                  refine br_l rfl rfl ?_
                  conv => whnf
                  refine And.intro (by decide) ?_
                  refine And.intro (by decide) ?_
                  with_reducible refine ⟨_, rfl, ?_⟩
                  conv => whnf
                  refine br_r rfl rfl ?_
                  conv => whnf
                  refine br_r rfl rfl ?_
                  conv => whnf
                  refine br_r rfl rfl ?_
                  conv => whnf
                  refine br_r rfl rfl ?_
                  conv => whnf
                  refine br_r rfl rfl ?_
                  conv => whnf
                  refine br_r rfl rfl ?_
                  conv => whnf
                  refine And.intro (by decide) ?_
                  refine And.intro (by decide) ?_
                  refine And.intro (by decide) ?_
                  conv => whnf
                  refine And.intro (by decide) ?_
                  conv => whnf
                  refine br_r rfl rfl ?_
                  (conv => whnf) <;> with_reducible rfl
                · conv => whnf
                  refine br_l rfl rfl ?_
                  conv => whnf
                  refine br_l rfl rfl ?_
                  conv => whnf
                  refine br_l rfl rfl ?_
                  conv => whnf
                  refine br_l rfl rfl ?_
                  conv => whnf
                  refine br_l rfl rfl ?_
                  conv => whnf
                  refine br_l rfl rfl ?_
                  conv => whnf
                  apply ex_and
                  · apply good_at ak97 rfl rfl rfl
                    conv => whnf
                    apply ex_and
                    · apply good_at ak127 rfl rfl rfl
                      conv => whnf
                      refine br_r rfl rfl ?_
                      conv => whnf
                      refine loop_run 300 ?_
                      conv => whnf
                      refine And.intro (by decide) ?_
                      conv => whnf
                      refine br_l rfl rfl ?_
                      conv => whnf
                      refine And.intro (by decide) ?_
                      conv => whnf
                      refine And.intro (by decide) ?_
                      refine And.intro (by decide) ?_
                      with_reducible refine ⟨_, rfl, ?_⟩
                      conv => whnf
                      refine And.intro (by decide) ?_
                      refine And.intro (by decide) ?_
                      with_reducible refine ⟨_, rfl, ?_⟩
                      conv => whnf
                      refine br_r rfl rfl ?_
                      conv => whnf
                      refine And.intro (by decide) ?_
                      conv => whnf
                      refine br_l rfl rfl ?_
                      conv => whnf
                      refine And.intro (by decide) ?_
                      conv => whnf
                      refine And.intro (by decide) ?_
                      refine And.intro (by decide) ?_
                      with_reducible refine ⟨_, rfl, ?_⟩
                      conv => whnf
                      refine And.intro (by decide) ?_
                      refine And.intro (by decide) ?_
                      with_reducible refine ⟨_, rfl, ?_⟩
                      conv => whnf
                      refine br_r rfl rfl ?_
                      conv => whnf
                      refine And.intro (by decide) ?_
                      conv => whnf
                      refine br_r rfl rfl ?_
                      (conv => whnf) <;> with_reducible rfl
                    · (conv => whnf) <;> with_reducible rfl
                  · conv => whnf
                    refine br_l rfl rfl ?_
                    conv => whnf
                    refine br_l rfl rfl ?_
                    conv => whnf
                    refine br_l rfl rfl ?_
                    conv => whnf
                    refine br_l rfl rfl ?_
                    conv => whnf
                    apply ex_and
                    · apply good_at ak97 rfl rfl rfl
                      conv => whnf
                      apply ex_and
                      · apply good_at ak127 rfl rfl rfl
                        conv => whnf
                        refine br_l rfl rfl ?_
                        (conv => whnf) <;> with_reducible rfl
                      · (conv => whnf) <;> with_reducible rfl
                    · conv => whnf
                      refine br_l rfl rfl ?_
                      conv => whnf
                      refine br_l rfl rfl ?_
                      conv => whnf
                      refine AV.of_eqv ?_
                      conv => whnf
                      refine And.intro (by decide) ?_
                      exact True.intro
end Go.Proofs.Ytmchbkmenokkdaa

/- serial.Unruns: two labels. -/
import Derived.Test.YtfkihagcgjombaaT15b
set_option maxRecDepth 100000
set_option linter.unusedSimpArgs false
set_option linter.unusedVariables false
namespace Go.Proofs.Ytfkihagcgjombaa
open Go.RowKit
set_option maxHeartbeats 4000000
theorem rng_max {p : Int × Int} (h1 : rtN p.1) (h2 : rtN p.2) : (rng p).length ≤ 65536 := by
  rw [rng_len h1 h2]
  have := h1.1
  have := h2.2
  omega
theorem sunruns_good (l : List (Int × Int)) (m : Int) (hl : l.length ≤ 1000) : Good Try.prog 12 [.sl .sh 2 (l.map rr), .int .i64 m] (.sl .own 1 ((unr l (mM m)).map i1)) := by
  have hM := mM_le m
  apply good_at ak12 rfl rfl rfl
  conv => whnf
  refine jump2_at (α := Nat) (β := Nat × (Int × Int) × Nat) [] [] (fun i => [(5, .sl .own 1 ((uo l (mM m) i).map i1)), (6, .int .i64 (i : Int))]) (fun _ => []) (fun i => i ≤ l.length) (fun i => (l.length - i) * 70000)
    (fun z => [(5, .sl .own 1 ((uz l (mM m) z.1 z.2.1 z.2.2).map i1)), (6, .int .i64 ((z.1 + 1 : Nat) : Int)), (7, .int .i64 (z.2.1.1 + (z.2.2 : Int))), (8, .int .i64 z.2.1.2)]) (fun _ => []) (fun z => l[z.1]? = some z.2.1 ∧ rtN z.2.1.1 ∧ rtN z.2.1.2 ∧ z.2.2 ≤ (rng z.2.1).length) (fun z => (l.length - z.1 - 1) * 70000 + 1 + ((rng z.2.1).length - z.2.2)) 0 (st_of ?_) ?_ (by rintro i _; rfl) (by rintro ⟨i, p, k⟩ _; rfl) ?_ ?_
  · conv => whnf
    refine And.intro (by with_reducible rfl) ?_
    conv => whnf
    refine And.intro (by with_reducible rfl) ?_
    conv => whnf
    refine And.intro (by (simp [uo]; done)) ?_
    conv => whnf
    refine And.intro (by decide) ?_
    exact True.intro
  · exact Nat.zero_le _
  · rintro ⟨i, p, k⟩ next ⟨hp, h1, h2, hk⟩ e1 e2
    dsimp only at hp h1 h2 hk
    have hil := lt_at hp
    have hrl := rng_len h1 h2
    conv => whnf
    refine And.intro (fun hc0 => ?_) (fun hc0 => ?_)
    · replace hc0 := of_decide_eq_false hc0
      conv => whnf
      refine br_l rfl rfl ?_
      conv => whnf
      refine br_l rfl rfl ?_
      conv => whnf
      refine br_l rfl rfl ?_
      conv => whnf
      refine br_r rfl rfl ?_
      conv => whnf
      refine And.intro (fun hc1 => ?_) (fun hc1 => ?_)
      · replace hc1 := of_decide_eq_true hc1
        conv => whnf
        refine e1 (i + 1) _ ?_ ?_ (st_of ?_)
        · assumption
        · dsimp only
          omega
        · conv => whnf
          refine And.intro (by with_reducible rfl) ?_
          conv => whnf
          refine And.intro (by with_reducible rfl) ?_
          conv => whnf
          refine And.intro (by exact uz_room' hp (by assumption)) ?_
          conv => whnf
          refine And.intro (by with_reducible rfl) ?_
          exact True.intro
      · replace hc1 := of_decide_eq_false hc1
        conv => whnf
        refine And.intro (by (simp; done)) ?_
        refine And.intro (by (have := uz_len (l := l) (M := mM m) (i := i) (p := p) (k := k); simp only [map_rows, maxLen_eq, List.length_singleton]; omega)) ?_
        refine And.intro (by (have := uz_len (l := l) (M := mM m) (i := i) (p := p) (k := k); simp only [map_rows, maxLen_eq, List.length_singleton]; omega)) ?_
        conv => whnf
        refine e2 (i, p, k + 1) _ ?_ ?_ (st_of ?_)
        · dsimp only
          exact ⟨hp, h1, h2, by have hh := hc0; dsimp only at hh; omega⟩
        · dsimp only
          (simp only [wrap_i64, wrap_u64, wrap_u32, wrap_u16, wrap_u8, maxLen_eq, mmI] at *; omega)
        · conv => whnf
          refine And.intro (by with_reducible rfl) ?_
          conv => whnf
          refine And.intro (by with_reducible rfl) ?_
          conv => whnf
          refine And.intro (by exact uz_next' h1 h2 (by assumption) (by assumption)) ?_
          conv => whnf
          refine And.intro (by with_reducible rfl) ?_
          conv => whnf
          refine And.intro (by (simp only [wrap_i64]; omega)) ?_
          conv => whnf
          refine And.intro (by with_reducible rfl) ?_
          exact True.intro
    · replace hc0 := of_decide_eq_true hc0
      conv => whnf
      refine br_r rfl rfl ?_
      conv => whnf
      refine br_r rfl rfl ?_
      conv => whnf
      refine br_r rfl rfl ?_
      conv => whnf
      refine br_l rfl rfl ?_
      conv => whnf
      refine br_l rfl rfl ?_
      conv => whnf
      refine e1 (i + 1) _ ?_ ?_ (st_of ?_)
      · assumption
      · dsimp only
        omega
      · conv => whnf
        refine And.intro (by with_reducible rfl) ?_
        conv => whnf
        refine And.intro (by with_reducible rfl) ?_
        conv => whnf
        refine And.intro (by exact uz_out hp h1 h2 (by omega)) ?_
        conv => whnf
        refine And.intro (by with_reducible rfl) ?_
        exact True.intro
  · rintro i next hi e1 e2
    try dsimp only at hi
    conv => whnf
    refine And.intro (fun hc0 => ?_) (fun hc0 => ?_)
    · replace hc0 := of_decide_eq_false hc0
      conv => whnf
      refine br_l rfl rfl ?_
      conv => whnf
      refine br_l rfl rfl ?_
      conv => whnf
      refine br_l rfl rfl ?_
      conv => whnf
      refine br_r rfl rfl ?_
      conv => whnf
      refine And.intro (fun hc1 => ?_) (fun hc1 => ?_)
      · replace hc1 := of_decide_eq_true hc1
        conv => whnf
        refine AV.of_eqv ?_
        conv => whnf
        refine And.intro (by exact uo_room' (by assumption)) ?_
        exact True.intro
      · replace hc1 := of_decide_eq_false hc1
        conv => whnf
        refine And.intro (by exact rfl) ?_
        conv => whnf
        refine And.intro (by omega) ?_
        refine ex_row (l := l) ?_ fun p hp => ?_
        · (simp only [map_rows] at *; omega)
        · simp only [toNat_ofNat] at hp
          conv => whnf
          refine And.intro (by decide) ?_
          refine And.intro (by decide) ?_
          conv => whnf
          refine And.intro (by omega) ?_
          refine ex_row_r (f := rr) hp ?_
          conv => whnf
          refine And.intro (by decide) ?_
          refine And.intro (by decide) ?_
          conv => whnf
          refine ⟨_, (sright_good _), ?_⟩
          conv => whnf
          refine And.intro (fun hc4 => ?_) (fun hc4 => ?_)
          · replace hc4 := of_decide_eq_true (Bool.not_eq_false' _ |>.mp hc4)
            conv => whnf
            refine br_l rfl rfl ?_
            conv => whnf
            refine ⟨_, (sright_good _), ?_⟩
            conv => whnf
            refine br_l rfl rfl ?_
            conv => whnf
            refine br_r rfl rfl ?_
            conv => whnf
            refine And.intro (fun hc5 => ?_) (fun hc5 => ?_)
            · replace hc5 := of_decide_eq_false (Bool.not_eq_true' _ |>.mp hc5)
              conv => whnf
              refine e1 (i + 1) _ ?_ ?_ (st_of ?_)
              · (have := lt_at hp; omega)
              · (have := lt_at hp; omega)
              · conv => whnf
                refine And.intro (by with_reducible rfl) ?_
                conv => whnf
                refine And.intro (by with_reducible rfl) ?_
                conv => whnf
                refine And.intro (by (rw [uo_skip hp (fun h => absurd h.2 (by assumption))])) ?_
                conv => whnf
                refine And.intro (by (have := lt_at hp; simp only [wrap_i64]; omega)) ?_
                exact True.intro
            · replace hc5 := of_decide_eq_true (Bool.not_eq_false' _ |>.mp hc5)
              conv => whnf
              refine e2 (i, p, 0) _ ?_ ?_ (st_of ?_)
              · dsimp only
                exact ⟨hp, by assumption, by assumption, Nat.zero_le _⟩
              · dsimp only
                (have := lt_at hp; have := rng_max (by assumption : rtN p.1) (by assumption : rtN p.2); omega)
              · conv => whnf
                refine And.intro (by with_reducible rfl) ?_
                conv => whnf
                refine And.intro (by with_reducible rfl) ?_
                conv => whnf
                refine And.intro (by (rw [uz_start])) ?_
                conv => whnf
                refine And.intro (by (have := lt_at hp; simp only [wrap_i64]; omega)) ?_
                conv => whnf
                refine And.intro (by (have := lt_at hp; simp only [wrap_i64]; omega)) ?_
                conv => whnf
                refine And.intro (by with_reducible rfl) ?_
                exact True.intro
          · replace hc4 := of_decide_eq_false (Bool.not_eq_true' _ |>.mp hc4)
            conv => whnf
            refine br_r rfl rfl ?_
            conv => whnf
            refine br_r rfl rfl ?_
            conv => whnf
            refine br_l rfl rfl ?_
            conv => whnf
            refine br_l rfl rfl ?_
            conv => whnf
            refine e1 (i + 1) _ ?_ ?_ (st_of ?_)
            · (have := lt_at hp; omega)
            · (have := lt_at hp; omega)
            · conv => whnf
              refine And.intro (by with_reducible rfl) ?_
              conv => whnf
              refine And.intro (by with_reducible rfl) ?_
              conv => whnf
              refine And.intro (by (rw [uo_skip hp (fun h => absurd h.1 (by assumption))])) ?_
              conv => whnf
              refine And.intro (by (have := lt_at hp; simp only [wrap_i64]; omega)) ?_
              exact True.intro
    · replace hc0 := of_decide_eq_true hc0
      conv => whnf
      refine br_r rfl rfl ?_
      conv => whnf
      refine br_r rfl rfl ?_
      conv => whnf
      refine br_r rfl rfl ?_
      conv => whnf
      refine br_l rfl rfl ?_
      conv => whnf
      refine br_l rfl rfl ?_
      conv => whnf
      refine AV.of_eqv ?_
      conv => whnf
      refine And.intro (by (rw [uo_end (by simp only [map_rows] at *; omega)])) ?_
      exact True.intro
end Go.Proofs.Ytfkihagcgjombaa

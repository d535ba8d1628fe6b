/- Numbers in a row: contracts. -/
import Derived.Test.YtfkihagcgjombaaT15c
set_option maxRecDepth 100000
set_option linter.unusedSimpArgs false
set_option linter.unusedVariables false
namespace Go.Proofs.Ytfkihagcgjombaa
open Go.RowKit
set_option maxHeartbeats 4000000
def i1 (x : Int) : List AV := [.int .i64 x]
abbrev rr (p : Int × Int) : List AV := [.int .i64 p.1, .int .i64 p.2]
theorem sright_good (n : Int) : Good Try.prog 9 [.int .i64 n] (.bool (decide (0 ≤ n ∧ n ≤ 65535))) := by
  apply good_at ak9 rfl rfl rfl
  conv => whnf
  refine And.intro (fun hc0 => ?_) (fun hc0 => ?_)
  · replace hc0 := of_decide_eq_true hc0
    conv => whnf
    refine br_l rfl rfl ?_
    conv => whnf
    refine br_l rfl rfl ?_
    conv => whnf
    refine AV.of_eqv ?_
    conv => whnf
    refine And.intro (by exact decide_eq_decide.2 (by omega)) ?_
    exact True.intro
  · replace hc0 := of_decide_eq_false hc0
    conv => whnf
    refine br_r rfl rfl ?_
    conv => whnf
    refine br_r rfl rfl ?_
    conv => whnf
    refine AV.of_eqv ?_
    conv => whnf
    refine And.intro (by exact (decide_eq_false (by omega)).symm) ?_
    exact True.intro
theorem rsright_good (n : Int) : Good Try.prog 19 [.int .i64 n] (.bool (decide (0 ≤ n ∧ n ≤ 65535))) := by
  apply good_at ak19 rfl rfl rfl
  conv => whnf
  refine And.intro (fun hc0 => ?_) (fun hc0 => ?_)
  · replace hc0 := of_decide_eq_true hc0
    conv => whnf
    refine br_l rfl rfl ?_
    conv => whnf
    refine br_l rfl rfl ?_
    conv => whnf
    refine AV.of_eqv ?_
    conv => whnf
    refine And.intro (by exact decide_eq_decide.2 (by omega)) ?_
    exact True.intro
  · replace hc0 := of_decide_eq_false hc0
    conv => whnf
    refine br_r rfl rfl ?_
    conv => whnf
    refine br_r rfl rfl ?_
    conv => whnf
    refine AV.of_eqv ?_
    conv => whnf
    refine And.intro (by exact (decide_eq_false (by omega)).symm) ?_
    exact True.intro
theorem awake15_good : Good Try.prog 6 [] (.bool true) := by
  apply good_at ak6 rfl rfl rfl
  conv => whnf
  apply ex_and
  · apply good_at ak5 rfl rfl rfl
    conv => whnf
    apply ex_and
    · apply good_at ak9 rfl rfl rfl
      conv => whnf
      refine br_l rfl rfl ?_
      conv => whnf
      refine br_l rfl rfl ?_
      conv => whnf
      refine br_l rfl rfl ?_
      (conv => whnf) <;> with_reducible rfl
    · conv => whnf
      refine br_r rfl rfl ?_
      conv => whnf
      refine br_r rfl rfl ?_
      (conv => whnf) <;> with_reducible rfl
  · conv => whnf
    apply ex_and
    · apply good_at ak5 rfl rfl rfl
      conv => whnf
      apply ex_and
      · apply good_at ak9 rfl rfl rfl
        conv => whnf
        refine br_l rfl rfl ?_
        conv => whnf
        refine br_l rfl rfl ?_
        conv => whnf
        refine br_l rfl rfl ?_
        (conv => whnf) <;> with_reducible rfl
      · conv => whnf
        refine br_r rfl rfl ?_
        conv => whnf
        refine br_l rfl rfl ?_
        (conv => whnf) <;> with_reducible rfl
    · conv => whnf
      apply ex_and
      · apply good_at ak5 rfl rfl rfl
        conv => whnf
        apply ex_and
        · apply good_at ak9 rfl rfl rfl
          conv => whnf
          refine br_r rfl rfl ?_
          conv => whnf
          refine br_r rfl rfl ?_
          conv => whnf
          refine br_r rfl rfl ?_
          (conv => whnf) <;> with_reducible rfl
        · conv => whnf
          refine br_l rfl rfl ?_
          (conv => whnf) <;> with_reducible rfl
      · conv => whnf
        refine br_l rfl rfl ?_
        conv => whnf
        refine br_l rfl rfl ?_
        conv => whnf
        refine br_l rfl rfl ?_
        conv => whnf
        refine br_l rfl rfl ?_
        conv => whnf
        refine br_l rfl rfl ?_
        conv => whnf
        refine br_l rfl rfl ?_
        conv => whnf
        refine br_l rfl rfl ?_
        conv => whnf
        refine br_l rfl rfl ?_
        conv => whnf
        refine br_l rfl rfl ?_
        conv => whnf
        refine br_l rfl rfl ?_
        conv => whnf
        apply ex_and
        · apply good_at ak7 rfl rfl rfl
          conv => whnf
          apply ex_and
          · apply good_at ak9 rfl rfl rfl
            conv => whnf
            refine br_l rfl rfl ?_
            conv => whnf
            refine br_l rfl rfl ?_
            conv => whnf
            refine br_l rfl rfl ?_
            (conv => whnf) <;> with_reducible rfl
          · conv => whnf
            refine br_l rfl rfl ?_
            conv => whnf
            refine br_l rfl rfl ?_
            conv => whnf
            apply ex_and
            · apply good_at ak9 rfl rfl rfl
              conv => whnf
              refine br_l rfl rfl ?_
              conv => whnf
              refine br_l rfl rfl ?_
              conv => whnf
              refine br_l rfl rfl ?_
              (conv => whnf) <;> with_reducible rfl
            · conv => whnf
              refine br_l rfl rfl ?_
              conv => whnf
              refine br_r rfl rfl ?_
              conv => whnf
              refine br_l rfl rfl ?_
              conv => whnf
              refine br_l rfl rfl ?_
              conv => whnf
              refine br_l rfl rfl ?_
              conv => whnf
              refine br_r rfl rfl ?_
              conv => whnf
              refine br_r rfl rfl ?_
              (conv => whnf) <;> with_reducible rfl
        · conv => whnf
          refine br_l rfl rfl ?_
          conv => whnf
          refine br_l rfl rfl ?_
          conv => whnf
          refine br_l rfl rfl ?_
          conv => whnf
          apply ex_and
          · apply good_at ak7 rfl rfl rfl
            conv => whnf
            apply ex_and
            · apply good_at ak9 rfl rfl rfl
              conv => whnf
              refine br_l rfl rfl ?_
              conv => whnf
              refine br_l rfl rfl ?_
              conv => whnf
              refine br_l rfl rfl ?_
              (conv => whnf) <;> with_reducible rfl
            · conv => whnf
              refine br_l rfl rfl ?_
              conv => whnf
              refine br_l rfl rfl ?_
              conv => whnf
              apply ex_and
              · apply good_at ak9 rfl rfl rfl
                conv => whnf
                refine br_l rfl rfl ?_
                conv => whnf
                refine br_l rfl rfl ?_
                conv => whnf
                refine br_l rfl rfl ?_
                (conv => whnf) <;> with_reducible rfl
              · conv => whnf
                refine br_l rfl rfl ?_
                conv => whnf
                refine br_r rfl rfl ?_
                conv => whnf
                refine br_l rfl rfl ?_
                conv => whnf
                refine br_l rfl rfl ?_
                conv => whnf
                refine br_l rfl rfl ?_
                conv => whnf
                refine br_r rfl rfl ?_
                conv => whnf
                refine br_l rfl rfl ?_
                (conv => whnf) <;> with_reducible rfl
          · conv => whnf
            refine br_l rfl rfl ?_
            conv => whnf
            refine br_l rfl rfl ?_
            conv => whnf
            refine br_l rfl rfl ?_
            conv => whnf
            apply ex_and
            · apply good_at ak8 rfl rfl rfl
              conv => whnf
              apply ex_and
              · apply good_at ak7 rfl rfl rfl
                conv => whnf
                apply ex_and
                · apply good_at ak9 rfl rfl rfl
                  conv => whnf
                  refine br_l rfl rfl ?_
                  conv => whnf
                  refine br_l rfl rfl ?_
                  conv => whnf
                  refine br_l rfl rfl ?_
                  (conv => whnf) <;> with_reducible rfl
                · conv => whnf
                  refine br_l rfl rfl ?_
                  conv => whnf
                  refine br_l rfl rfl ?_
                  conv => whnf
                  apply ex_and
                  · apply good_at ak9 rfl rfl rfl
                    conv => whnf
                    refine br_l rfl rfl ?_
                    conv => whnf
                    refine br_l rfl rfl ?_
                    conv => whnf
                    refine br_l rfl rfl ?_
                    (conv => whnf) <;> with_reducible rfl
                  · conv => whnf
                    refine br_l rfl rfl ?_
                    conv => whnf
                    refine br_r rfl rfl ?_
                    conv => whnf
                    refine br_l rfl rfl ?_
                    conv => whnf
                    refine br_l rfl rfl ?_
                    conv => whnf
                    refine br_l rfl rfl ?_
                    conv => whnf
                    refine br_r rfl rfl ?_
                    conv => whnf
                    refine br_r rfl rfl ?_
                    (conv => whnf) <;> with_reducible rfl
              · conv => whnf
                refine br_l rfl rfl ?_
                conv => whnf
                refine br_l rfl rfl ?_
                conv => whnf
                refine br_l rfl rfl ?_
                (conv => whnf) <;> with_reducible rfl
            · conv => whnf
              refine br_l rfl rfl ?_
              conv => whnf
              refine br_l rfl rfl ?_
              conv => whnf
              apply ex_and
              · apply good_at ak8 rfl rfl rfl
                conv => whnf
                apply ex_and
                · apply good_at ak7 rfl rfl rfl
                  conv => whnf
                  apply ex_and
                  · apply good_at ak9 rfl rfl rfl
                    conv => whnf
                    refine br_l rfl rfl ?_
                    conv => whnf
                    refine br_l rfl rfl ?_
                    conv => whnf
                    refine br_l rfl rfl ?_
                    (conv => whnf) <;> with_reducible rfl
                  · conv => whnf
                    refine br_l rfl rfl ?_
                    conv => whnf
                    refine br_l rfl rfl ?_
                    conv => whnf
                    apply ex_and
                    · apply good_at ak9 rfl rfl rfl
                      conv => whnf
                      refine br_l rfl rfl ?_
                      conv => whnf
                      refine br_l rfl rfl ?_
                      conv => whnf
                      refine br_l rfl rfl ?_
                      (conv => whnf) <;> with_reducible rfl
                    · conv => whnf
                      refine br_l rfl rfl ?_
                      conv => whnf
                      refine br_r rfl rfl ?_
                      conv => whnf
                      refine br_l rfl rfl ?_
                      conv => whnf
                      refine br_l rfl rfl ?_
                      conv => whnf
                      refine br_l rfl rfl ?_
                      conv => whnf
                      refine br_r rfl rfl ?_
                      conv => whnf
                      refine br_r rfl rfl ?_
                      (conv => whnf) <;> with_reducible rfl
                · conv => whnf
                  refine br_l rfl rfl ?_
                  conv => whnf
                  refine br_l rfl rfl ?_
                  conv => whnf
                  refine br_l rfl rfl ?_
                  (conv => whnf) <;> with_reducible rfl
              · conv => whnf
                refine br_l rfl rfl ?_
                conv => whnf
                refine br_l rfl rfl ?_
                conv => whnf
                refine br_l rfl rfl ?_
                conv => whnf
                apply ex_and
                · apply good_at ak9 rfl rfl rfl
                  conv => whnf
                  refine br_l rfl rfl ?_
                  conv => whnf
                  refine br_l rfl rfl ?_
                  conv => whnf
                  refine br_l rfl rfl ?_
                  (conv => whnf) <;> with_reducible rfl
                · conv => whnf
                  refine br_l rfl rfl ?_
                  conv => whnf
                  refine br_l rfl rfl ?_
                  conv => whnf
                  apply ex_and
                  · apply good_at ak9 rfl rfl rfl
                    conv => whnf
                    refine br_l rfl rfl ?_
                    conv => whnf
                    refine br_l rfl rfl ?_
                    conv => whnf
                    refine br_l rfl rfl ?_
                    (conv => whnf) <;> with_reducible rfl
                  · conv => whnf
                    refine br_l rfl rfl ?_
                    conv => whnf
                    refine br_l rfl rfl ?_
                    conv => whnf
                    refine AV.of_eqv ?_
                    conv => whnf
                    refine And.intro (by decide) ?_
                    exact True.intro
theorem ints_good (l m : List Int) (hl : l.length ≤ 1000000) (hm : m.length ≤ 1000000) : Good Try.prog 16 [.sl .sh 1 (l.map i1), .sl .sh 1 (m.map i1)] (.bool (decide (l = m))) := by
  apply good_at ak16 rfl rfl rfl
  conv => whnf
  refine And.intro (fun hc0 => ?_) (fun hc0 => ?_)
  · replace hc0 := of_decide_eq_false (Bool.not_eq_true' _ |>.mp hc0)
    conv => whnf
    refine AV.of_eqv ?_
    conv => whnf
    refine And.intro (by (exact (decide_eq_false (by rintro rfl; exact absurd rfl (by assumption))).symm)) ?_
    exact True.intro
  · replace hc0 := of_decide_eq_true (Bool.not_eq_false' _ |>.mp hc0)
    conv => whnf
    refine loop_at (α := Nat) [] (fun i => [(13, .int .i64 (i : Int))]) (fun i => []) (fun i => i ≤ l.length ∧ l.take i = m.take i) (fun i => l.length - i) (0) (st_of ?_) ?_ (by rintro i _; rfl) ?_
    · conv => whnf
      refine And.intro (by with_reducible rfl) ?_
      conv => whnf
      refine And.intro (by with_reducible rfl) ?_
      conv => whnf
      refine And.intro (by with_reducible rfl) ?_
      conv => whnf
      refine And.intro (by decide) ?_
      exact True.intro
    · (exact ⟨by omega, rfl⟩)
    · rintro i nextl0 hIl0 ihl0
      try dsimp only at hIl0
      conv => whnf
      refine And.intro (fun hc1 => ?_) (fun hc1 => ?_)
      · replace hc1 := of_decide_eq_true hc1
        conv => whnf
        refine And.intro (by exact rfl) ?_
        conv => whnf
        refine And.intro (by omega) ?_
        refine ex_row (l := l) ?_ fun x hx => ?_
        · (simp only [map_rows, maxLen_eq] at *; omega)
        · simp only [toNat_ofNat] at hx
          conv => whnf
          refine And.intro (by omega) ?_
          refine ex_row (l := m) ?_ fun y hy => ?_
          · (simp only [map_rows, maxLen_eq] at *; omega)
          · simp only [toNat_ofNat] at hy
            conv => whnf
            refine And.intro (fun hc4 => ?_) (fun hc4 => ?_)
            · replace hc4 := of_decide_eq_false (Bool.not_eq_true' _ |>.mp hc4)
              conv => whnf
              refine AV.of_eqv ?_
              conv => whnf
              refine And.intro (by (exact (decide_eq_false (ne_at hx hy (by assumption))).symm)) ?_
              exact True.intro
            · replace hc4 := of_decide_eq_true (Bool.not_eq_false' _ |>.mp hc4)
              conv => whnf
              refine ihl0 (i + 1) _ ?_ ?_ (st_of ?_)
              · (have := lt_at hx; exact ⟨by omega, eq_next hIl0.2 hx hy (by assumption)⟩)
              · (simp only [map_rows, maxLen_eq] at *; omega)
              · conv => whnf
                refine And.intro (by with_reducible rfl) ?_
                conv => whnf
                refine And.intro (by with_reducible rfl) ?_
                conv => whnf
                refine And.intro (by with_reducible rfl) ?_
                conv => whnf
                refine And.intro (by (simp only [wrap_i64, wrap_u64, wrap_u32, wrap_u16, wrap_u8, maxLen_eq, mmI] at *; omega)) ?_
                exact True.intro
      · replace hc1 := of_decide_eq_false hc1
        conv => whnf
        refine AV.of_eqv ?_
        conv => whnf
        refine And.intro (by (exact (decide_eq_true (eq_end hIl0.2 (by simp only [map_rows] at *; omega) (by simp only [map_rows] at *; omega))).symm)) ?_
        exact True.intro
/-- the runs of numbers that rise -/
def rstep (out : List (Int × Int)) (n : Int) : List (Int × Int) := match out.getLast? with
  | some p => if p.2 + 1 = n then out.dropLast ++ [(p.1, n)] else out ++ [(n, n)]
  | none => out ++ [(n, n)]
def rn (l : List Int) : List (Int × Int) := l.foldl rstep []
theorem rstep_len (out : List (Int × Int)) (n : Int) : (rstep out n).length ≤ out.length + 1 := by
  unfold rstep
  split <;> (try split) <;> simp <;> omega
theorem rn_at {l : List Int} {i : Nat} {x : Int} (hx : l[i]? = some x) : rn (l.take (i + 1)) = rstep (rn (l.take i)) x := by
  unfold rn
  rw [List.take_add_one, hx, List.foldl_append]
  rfl
theorem rn_len (l : List Int) : ∀ i, (rn (l.take i)).length ≤ i
  | 0 => by simp [rn]
  | i + 1 => by
    cases hx : l[i]? with
    | none =>
      rw [List.take_add_one, hx]
      have := rn_len l i
      simp only [Option.toList_none, List.append_nil]
      omega
    | some x =>
      rw [rn_at hx]
      have h1 := rstep_len (rn (l.take i)) x
      have h2 := rn_len l i
      omega
/-- the numbers below n that l has -/
def T (n : Nat) (l : List Int) : List Int := ((List.range n).filter fun (k : Nat) => decide ((k : Int) ∈ l)).map fun (k : Nat) => (k : Int)
abbrev S (l : List Int) : List Int := T 65536 l
theorem T_succ (n : Nat) (l : List Int) : T (n + 1) l = T n l ++ if (n : Int) ∈ l then [(n : Int)] else [] := by
  unfold T
  rw [List.range_succ, List.filter_append, List.map_append]
  congr 1
  by_cases h : (n : Int) ∈ l
  · rw [List.filter_cons_of_pos (by simpa using h), if_pos h]; rfl
  · rw [List.filter_cons_of_neg (by simpa using h), if_neg h]; rfl
theorem T_mem {n : Nat} {l : List Int} {x : Int} : x ∈ T n l ↔ 0 ≤ x ∧ x < n ∧ x ∈ l := by
  unfold T
  simp only [List.mem_map, List.mem_filter, List.mem_range, decide_eq_true_eq]
  constructor
  · rintro ⟨k, ⟨h1, h2⟩, rfl⟩
    exact ⟨by omega, by omega, h2⟩
  · rintro ⟨h1, h2, h3⟩
    exact ⟨x.toNat, ⟨by omega, by rwa [Int.toNat_of_nonneg h1]⟩, Int.toNat_of_nonneg h1⟩
theorem T_rise (l : List Int) : ∀ n, (T n l).Pairwise (· < ·)
  | 0 => by simp [T]
  | n + 1 => by
    rw [T_succ, List.pairwise_append]
    refine ⟨T_rise l n, by split <;> simp, fun a ha b hb => ?_⟩
    split at hb
    · rw [List.mem_singleton] at hb
      subst hb
      exact (T_mem.1 ha).2.1
    · simp at hb
theorem nodup_len : ∀ (s l : List Int), s.Nodup → (∀ x ∈ s, x ∈ l) → s.length ≤ l.length
  | [], _, _, _ => Nat.zero_le _
  | x :: s, l, hn, hs => by
    rw [List.nodup_cons] at hn
    have h1 := nodup_len s (l.erase x) hn.2 fun y hy => (List.mem_erase_of_ne (by rintro rfl; exact hn.1 hy)).2 (hs y (by simp [hy]))
    have h2 : x ∈ l := hs x (by simp)
    have h3 := List.length_erase_of_mem h2
    have h4 : 0 < l.length := List.length_pos_of_mem h2
    simp only [List.length_cons]
    omega
theorem T_len (n : Nat) (l : List Int) : (T n l).length ≤ l.length :=
  nodup_len _ _ ((T_rise l n).imp fun h => by omega) fun _ hx => (T_mem.1 hx).2.2
theorem T_take {n m : Nat} {l : List Int} (h : n ≤ m) (hl : ∀ x ∈ l, (n : Int) ≤ x → ¬ x < m) : T m l = T n l := by
  induction m with
  | zero => rw [show n = 0 by omega]
  | succ m ih =>
    by_cases hm : n = m + 1
    · rw [hm]
    · rw [T_succ, ih (by omega) (fun x hx h1 h2 => hl x hx h1 (by omega)), if_neg (fun hx => hl _ hx (by omega) (by omega)), List.append_nil]
/-- as it is -/
theorem last_row {out : List (Int × Int)} {p : Int × Int} (h : out.getLast? = some p) : ∃ pre, out = pre ++ [p] := by
  obtain ⟨pre, hpre⟩ := List.getLast?_eq_some_iff.1 h
  exact ⟨pre, hpre⟩
theorem rr_flat (l : List (Int × Int)) : flatRows (l.map rr) := flat_map (fun a => by simp [rr, AV.flat]) l
theorem wr_n (n : Nat) (h : n ≤ 100000) : IntKind.i64.wrap ((n : Int) - 1) = (n : Int) - 1 := by rw [wrap_i64]; omega
theorem last_at {out : List (Int × Int)} {p : Int × Int} {k : Nat} (hk : k + 1 = out.length) (h : out[k]? = some p) : out.getLast? = some p := by
  rw [List.getLast?_eq_getElem?, ← hk]; exact h
theorem last_set {out : List (Int × Int)} {p : Int × Int} {k : Nat} (hk : k + 1 = out.length) (q : Int × Int) : out.set k q = out.dropLast ++ [q] := by
  rcases List.eq_nil_or_concat out with rfl | ⟨pre, z, rfl⟩
  · simp at hk
  · simp at hk
    subst hk
    simp
theorem rstep_ext {out : List (Int × Int)} {p : Int × Int} {k : Nat} {n : Int} (hk : k + 1 = out.length) (h : out[k]? = some p) (he : p.2 + 1 = n) : (out.map rr).set k [.int .i64 p.1, .int .i64 n] = (rstep out n).map rr := by
  unfold rstep
  rw [last_at hk h]
  show _ = (if p.2 + 1 = n then _ else _ : List (Int × Int)).map rr
  rw [if_pos he, ← last_set (p := p) hk, List.map_set]
theorem rstep_new {out : List (Int × Int)} {n : Int} (h : ∀ p, out.getLast? = some p → ¬ p.2 + 1 = n) : out.map rr ++ [[.int .i64 n, .int .i64 n]] = (rstep out n).map rr := by
  unfold rstep
  split
  · rename_i p hp
    rw [if_neg (h p hp), List.map_append]; rfl
  · rw [List.map_append]; rfl
theorem ex_row_r {α : Type} {f : α → List AV} {l : List α} {i : Nat} {y : α} {K : List AV → Prop} (hy : l[i]? = some y) (h : K (f y)) : ∃ c, (l.map f)[i]? = some c ∧ K c :=
  ⟨f y, by rw [List.getElem?_map, hy]; rfl, h⟩
theorem rstep_mem {out : List (Int × Int)} {n : Int} {p : Int × Int} (h : p ∈ rstep out n) : p ∈ out ∨ (p.2 = n ∧ (p.1 = n ∨ ∃ q ∈ out, q.1 = p.1)) := by
  unfold rstep at h
  split at h
  · rename_i q hq
    obtain ⟨pre, rfl⟩ := last_row hq
    split at h
    · rw [List.dropLast_concat, List.mem_append, List.mem_singleton] at h
      rcases h with h | rfl
      · exact .inl (by simp [h])
      · exact .inr ⟨rfl, .inr ⟨q, by simp, rfl⟩⟩
    · rw [List.mem_append, List.mem_singleton] at h
      rcases h with h | rfl
      · exact .inl h
      · exact .inr ⟨rfl, .inl rfl⟩
  · rw [List.mem_append, List.mem_singleton] at h
    rcases h with h | rfl
    · exact .inl h
    · exact .inr ⟨rfl, .inl rfl⟩
theorem rn_mem (l : List Int) : ∀ i, ∀ p ∈ rn (l.take i), p.1 ∈ l ∧ p.2 ∈ l
  | 0, p, hp => by simp [rn] at hp
  | i + 1, p, hp => by
    cases hx : l[i]? with
    | none =>
      rw [List.take_add_one, hx] at hp
      exact rn_mem l i p (by simpa using hp)
    | some x =>
      rw [rn_at hx] at hp
      have hxl := List.mem_of_getElem? hx
      rcases rstep_mem hp with h | ⟨h2, h | ⟨q, hq, h⟩⟩
      · exact rn_mem l i p h
      · exact ⟨h ▸ hxl, h2 ▸ hxl⟩
      · exact ⟨h ▸ (rn_mem l i q hq).1, h2 ▸ hxl⟩
section
variable {s : List Int} {i : Nat} {x : Int} {p : Int × Int}
theorem run_k (hs : s.length ≤ 40) (hi : i ≤ s.length) (h : 0 ≤ IntKind.i64.wrap ((((rn (s.take i)).map rr).length : Nat) - 1)) : 0 + (IntKind.i64.wrap ((((rn (s.take i)).map rr).length : Nat) - 1)).toNat + 1 = (rn (s.take i)).length := by
  have := rn_len s i
  rw [List.length_map] at *
  rw [wr_n _ (by omega)] at *
  omega
theorem run_p (hb : ∀ x ∈ s, 0 ≤ x ∧ x ≤ 65535) {k : Nat} (hp : (rn (s.take i))[k]? = some p) : IntKind.i64.wrap (p.2 + 1) = p.2 + 1 := by
  have := hb _ (rn_mem s i p (List.mem_of_getElem? hp)).2
  rw [wrap_i64]
  omega
theorem run_ext (hs : s.length ≤ 40) (hb : ∀ x ∈ s, 0 ≤ x ∧ x ≤ 65535) (hi : i ≤ s.length) (hx : s[i]? = some x) (h : 0 ≤ IntKind.i64.wrap ((((rn (s.take i)).map rr).length : Nat) - 1)) (hp : (rn (s.take i))[0 + (IntKind.i64.wrap ((((rn (s.take i)).map rr).length : Nat) - 1)).toNat]? = some p)
    (h5 : IntKind.i64.wrap (p.2 + 1) = x) : ((rn (s.take i)).map rr).set (0 + (IntKind.i64.wrap ((((rn (s.take i)).map rr).length : Nat) - 1)).toNat) [.int .i64 p.1, .int .i64 x] = (rn (s.take (i + 1))).map rr := by
  rw [run_p hb hp] at h5
  rw [rstep_ext (run_k hs hi h) hp h5, rn_at hx]
theorem run_ext_n (hs : s.length ≤ 40) (hb : ∀ x ∈ s, 0 ≤ x ∧ x ≤ 65535) (hi : i ≤ s.length) (hx : s[i]? = some x) (h : 0 ≤ IntKind.i64.wrap ((((rn (s.take i)).map rr).length : Nat) - 1)) (hp : (rn (s.take i))[0 + (IntKind.i64.wrap ((((rn (s.take i)).map rr).length : Nat) - 1)).toNat]? = some p)
    (h5 : IntKind.i64.wrap (p.2 + 1) = x) : ((rn (s.take i)).map rr).length = ((rn (s.take (i + 1))).map rr).length := by
  rw [← run_ext hs hb hi hx h hp h5, List.length_set]
theorem run_new (hs : s.length ≤ 40) (hb : ∀ x ∈ s, 0 ≤ x ∧ x ≤ 65535) (hi : i ≤ s.length) (hx : s[i]? = some x) (h : ¬ 0 ≤ IntKind.i64.wrap ((((rn (s.take i)).map rr).length : Nat) - 1) ∨ (0 ≤ IntKind.i64.wrap ((((rn (s.take i)).map rr).length : Nat) - 1) ∧ ∃ p, (rn (s.take i))[0 + (IntKind.i64.wrap ((((rn (s.take i)).map rr).length : Nat) - 1)).toNat]? = some p ∧ ¬ IntKind.i64.wrap (p.2 + 1) = x)) :
    (rn (s.take i)).map rr ++ [[.int .i64 x, .int .i64 x]] = (rn (s.take (i + 1))).map rr := by
  rw [rn_at hx]
  refine rstep_new fun q hq => ?_
  rcases h with h | ⟨h, p, hp, h5⟩
  · exfalso
    obtain ⟨pre, e⟩ := last_row hq
    have := rn_len s i
    rw [List.length_map, wr_n _ (by omega), e, List.length_append, List.length_singleton] at h
    omega
  · have := last_at (run_k hs hi h) hp
    rw [hq] at this
    cases this
    rwa [run_p hb hp] at h5
theorem run_new_n (hs : s.length ≤ 40) (hb : ∀ x ∈ s, 0 ≤ x ∧ x ≤ 65535) (hi : i ≤ s.length) (hx : s[i]? = some x) (h : ¬ 0 ≤ IntKind.i64.wrap ((((rn (s.take i)).map rr).length : Nat) - 1) ∨ (0 ≤ IntKind.i64.wrap ((((rn (s.take i)).map rr).length : Nat) - 1) ∧ ∃ p, (rn (s.take i))[0 + (IntKind.i64.wrap ((((rn (s.take i)).map rr).length : Nat) - 1)).toNat]? = some p ∧ ¬ IntKind.i64.wrap (p.2 + 1) = x)) :
    ((rn (s.take i)).map rr).length + [[AV.int .i64 x, AV.int .i64 x]].length = ((rn (s.take (i + 1))).map rr).length := by
  rw [← run_new hs hb hi hx h, List.length_append]
theorem run_end (hs : s.length ≤ 40) (hi : i ≤ s.length) (h : ((s.map i1).length : Int) ≤ i ∨ (64 : Int) ≤ (((rn (s.take i)).map rr).length : Nat)) : (((rn (s.take i)).map rr).drop 0).take ((rn (s.take i)).map rr).length = (rn s).map rr := by
  have := rn_len s i
  rw [List.length_map] at h
  rw [List.drop_zero, List.take_length, List.take_of_length_le]
  rcases h with h | h
  · omega
  · rw [List.length_map] at h; omega
end
theorem runs_good (l s : List Int) (hs : s.length ≤ 40) (hb : ∀ x ∈ s, 0 ≤ x ∧ x ≤ 65535) (hr : Good Try.prog 17 [.sl .sh 1 (l.map i1)] (.sl .sh 1 (s.map i1))) : Good Try.prog 10 [.sl .sh 1 (l.map i1)] (.sl .sh 2 ((rn s).map rr)) := by
  have hR := fun i => rn_len s i
  apply good_at ak10 rfl rfl rfl
  conv => whnf
  refine ⟨_, hr, ?_⟩
  conv => whnf
  refine jump_at (α := Nat) [] (fun i => [(5, .int .i64 (i : Int)), (4, .bsl 0 2 0 ((rn (s.take i)).map rr).length)]) (fun i => [(0, some ⟨false, 2, (rn (s.take i)).map rr⟩)]) (fun i => i ≤ s.length) (fun i => s.length - i) (0) (st_of ?_) ?_ (by rintro i _; rfl) ?_
  · conv => whnf
    refine And.intro (by with_reducible rfl) ?_
    conv => whnf
    refine And.intro (by with_reducible rfl) ?_
    refine And.intro (by exact rfl) ?_
    conv => whnf
    refine And.intro (by decide) ?_
    conv => whnf
    refine And.intro (by exact rfl) ?_
    exact True.intro
  · omega
  · rintro i nextj0 hIj0 ihj0
    try dsimp only at hIj0
    conv => whnf
    refine And.intro (fun hc0 => ?_) (fun hc0 => ?_)
    · replace hc0 := of_decide_eq_false hc0
      conv => whnf
      refine br_l rfl rfl ?_
      conv => whnf
      refine br_l rfl rfl ?_
      conv => whnf
      refine br_r rfl rfl ?_
      conv => whnf
      refine And.intro (fun hc1 => ?_) (fun hc1 => ?_)
      · replace hc1 := of_decide_eq_true hc1
        conv => whnf
        refine And.intro (by with_reducible rfl) ?_
        refine And.intro (by with_reducible rfl) ?_
        refine And.intro (by omega) ?_
        refine And.intro (by exact rr_flat _) ?_
        conv => whnf
        refine AV.of_eqv ?_
        conv => whnf
        refine And.intro (by exact run_end hs hIj0 (.inr (by assumption))) ?_
        exact True.intro
      · replace hc1 := of_decide_eq_false hc1
        conv => whnf
        refine And.intro (by omega) ?_
        refine ex_row (l := s) ?_ fun x hx => ?_
        · (simp only [map_rows] at *; omega)
        · simp only [toNat_ofNat] at hx
          conv => whnf
          refine And.intro (fun hc3 => ?_) (fun hc3 => ?_)
          · replace hc3 := of_decide_eq_true hc3
            conv => whnf
            refine br_l rfl rfl ?_
            conv => whnf
            refine br_l rfl rfl ?_
            conv => whnf
            refine And.intro (by assumption) ?_
            refine And.intro (by decide) ?_
            refine And.intro (by (simp only [wrap_i64]; omega)) ?_
            conv => whnf
            refine br_l rfl rfl ?_
            conv => whnf
            refine And.intro (by decide) ?_
            refine And.intro (by decide) ?_
            conv => whnf
            refine br_l rfl rfl ?_
            conv => whnf
            refine ex_row (l := rn (s.take i)) ?_ fun p hp => ?_
            · (have := run_k hs hIj0 (by assumption); omega)
            · conv => whnf
              refine br_l rfl rfl ?_
              conv => whnf
              refine br_l rfl rfl ?_
              conv => whnf
              refine br_l rfl rfl ?_
              conv => whnf
              refine br_l rfl rfl ?_
              conv => whnf
              refine And.intro (fun hc5 => ?_) (fun hc5 => ?_)
              · replace hc5 := of_decide_eq_true hc5
                conv => whnf
                refine And.intro (by assumption) ?_
                refine And.intro (by decide) ?_
                refine And.intro (by (simp only [wrap_i64]; omega)) ?_
                conv => whnf
                refine And.intro (by decide) ?_
                refine And.intro (by decide) ?_
                conv => whnf
                refine ex_row_r (f := rr) hp ?_
                conv => whnf
                refine ihj0 (i + 1) _ ?_ ?_ (st_of ?_)
                · (have := lt_at hx; omega)
                · (have := lt_at hx; omega)
                · conv => whnf
                  refine And.intro (by with_reducible rfl) ?_
                  conv => whnf
                  refine And.intro (by with_reducible rfl) ?_
                  refine And.intro (by exact run_ext_n hs hb hIj0 hx (by assumption) hp (by assumption)) ?_
                  conv => whnf
                  refine And.intro (by (simp only [wrap_i64]; omega)) ?_
                  conv => whnf
                  refine And.intro (by exact run_ext hs hb hIj0 hx (by assumption) hp (by assumption)) ?_
                  exact True.intro
              · replace hc5 := of_decide_eq_false hc5
                conv => whnf
                refine And.intro (by with_reducible rfl) ?_
                refine And.intro (by (have := hR i; simp only [map_rows, maxLen_eq, List.length_singleton]; omega)) ?_
                refine And.intro (by (have := hR i; simp only [map_rows, maxLen_eq, List.length_singleton]; omega)) ?_
                refine And.intro (by (have := hR i; simp only [map_rows, maxLen_eq, List.length_singleton]; omega)) ?_
                refine And.intro (by exact rr_flat _) ?_
                refine And.intro (by exact rr_flat [(x, x)]) ?_
                conv => whnf
                refine ihj0 (i + 1) _ ?_ ?_ (st_of ?_)
                · (have := lt_at hx; omega)
                · (have := lt_at hx; omega)
                · conv => whnf
                  refine And.intro (by with_reducible rfl) ?_
                  conv => whnf
                  refine And.intro (by with_reducible rfl) ?_
                  refine And.intro (by exact run_new_n hs hb hIj0 hx (.inr ⟨by assumption, _, hp, by assumption⟩)) ?_
                  conv => whnf
                  refine And.intro (by (simp only [wrap_i64]; omega)) ?_
                  conv => whnf
                  refine And.intro (by exact run_new hs hb hIj0 hx (.inr ⟨by assumption, _, hp, by assumption⟩)) ?_
                  exact True.intro
          · replace hc3 := of_decide_eq_false hc3
            conv => whnf
            refine br_r rfl rfl ?_
            conv => whnf
            refine br_r rfl rfl ?_
            conv => whnf
            refine br_r rfl rfl ?_
            conv => whnf
            refine br_r rfl rfl ?_
            conv => whnf
            refine br_r rfl rfl ?_
            conv => whnf
            refine br_r rfl rfl ?_
            conv => whnf
            refine br_r rfl rfl ?_
            conv => whnf
            refine br_r rfl rfl ?_
            conv => whnf
            refine br_r rfl rfl ?_
            conv => whnf
            refine And.intro (by with_reducible rfl) ?_
            refine And.intro (by (have := hR i; simp only [map_rows, maxLen_eq, List.length_singleton]; omega)) ?_
            refine And.intro (by (have := hR i; simp only [map_rows, maxLen_eq, List.length_singleton]; omega)) ?_
            refine And.intro (by (have := hR i; simp only [map_rows, maxLen_eq, List.length_singleton]; omega)) ?_
            refine And.intro (by exact rr_flat _) ?_
            refine And.intro (by exact rr_flat [(x, x)]) ?_
            conv => whnf
            refine ihj0 (i + 1) _ ?_ ?_ (st_of ?_)
            · (have := lt_at hx; omega)
            · (have := lt_at hx; omega)
            · conv => whnf
              refine And.intro (by with_reducible rfl) ?_
              conv => whnf
              refine And.intro (by with_reducible rfl) ?_
              refine And.intro (by exact run_new_n hs hb hIj0 hx (.inl (by assumption))) ?_
              conv => whnf
              refine And.intro (by (simp only [wrap_i64]; omega)) ?_
              conv => whnf
              refine And.intro (by exact run_new hs hb hIj0 hx (.inl (by assumption))) ?_
              exact True.intro
    · replace hc0 := of_decide_eq_true hc0
      conv => whnf
      refine br_r rfl rfl ?_
      conv => whnf
      refine br_r rfl rfl ?_
      conv => whnf
      refine br_l rfl rfl ?_
      conv => whnf
      refine br_l rfl rfl ?_
      conv => whnf
      refine And.intro (by with_reducible rfl) ?_
      refine And.intro (by with_reducible rfl) ?_
      refine And.intro (by omega) ?_
      refine And.intro (by exact rr_flat _) ?_
      conv => whnf
      refine AV.of_eqv ?_
      conv => whnf
      refine And.intro (by exact run_end hs hIj0 (.inl (by assumption))) ?_
      exact True.intro
end Go.Proofs.Ytfkihagcgjombaa

/- Queues: what the law RingMoves calls. -/
import Derived.Test.YtgdkpiabahpleaaR12c
set_option maxRecDepth 100000
set_option linter.unusedSimpArgs false
set_option linter.unusedVariables false
namespace Go.Proofs.Ytgdkpiabahpleaa
open Go.RowKit
set_option maxHeartbeats 4000000
abbrev By := List UInt8
def sr (s : By) : List AV := [.str s]
abbrev eQ (room : Int) (l : List By) : AV := .agg [.int .i64 room, .sl .sh 1 (l.map sr)]
theorem awake12_good : Good Try.prog 4 [] (.bool true) := by
  apply good_at ak4 rfl rfl rfl
  conv => whnf
  apply ex_and
  · apply good_at ak14 rfl rfl rfl
    conv => whnf
    refine br_l rfl rfl ?_
    conv => whnf
    refine br_l rfl rfl ?_
    conv => whnf
    refine br_r rfl rfl ?_
    conv => whnf
    refine br_r rfl rfl ?_
    (conv => whnf) <;> with_reducible rfl
  · conv => whnf
    apply ex_and
    · apply good_at ak15 rfl rfl rfl
      conv => whnf
      refine br_r rfl rfl ?_
      conv => whnf
      refine And.intro (by decide) ?_
      conv => whnf
      apply ex_and
      · apply good_at ak20 rfl rfl rfl
        conv => whnf
        refine And.intro (by with_reducible rfl) ?_
        refine And.intro (by decide) ?_
        refine And.intro (by decide) ?_
        refine And.intro (by decide) ?_
        conv => whnf
        refine And.intro (by decide) ?_
        refine And.intro (by decide) ?_
        refine And.intro (by decide) ?_
        (conv => whnf) <;> with_reducible rfl
      · conv => whnf
        refine And.intro (by decide) ?_
        refine And.intro (by decide) ?_
        refine And.intro (by decide) ?_
        (conv => whnf) <;> with_reducible rfl
    · conv => whnf
      apply ex_and
      · apply good_at ak15 rfl rfl rfl
        conv => whnf
        refine br_r rfl rfl ?_
        conv => whnf
        refine And.intro (by decide) ?_
        conv => whnf
        apply ex_and
        · apply good_at ak20 rfl rfl rfl
          conv => whnf
          refine And.intro (by with_reducible rfl) ?_
          refine And.intro (by decide) ?_
          refine And.intro (by decide) ?_
          refine And.intro (by decide) ?_
          conv => whnf
          refine And.intro (by decide) ?_
          refine And.intro (by decide) ?_
          refine And.intro (by decide) ?_
          (conv => whnf) <;> with_reducible rfl
        · conv => whnf
          refine And.intro (by decide) ?_
          refine And.intro (by decide) ?_
          refine And.intro (by decide) ?_
          (conv => whnf) <;> with_reducible rfl
      · conv => whnf
        apply ex_and
        · apply good_at ak15 rfl rfl rfl
          conv => whnf
          refine br_l rfl rfl ?_
          (conv => whnf) <;> with_reducible rfl
        · conv => whnf
          apply ex_and
          · apply good_at ak16 rfl rfl rfl
            conv => whnf
            refine br_l rfl rfl ?_
            conv => whnf
            refine br_l rfl rfl ?_
            conv => whnf
            refine br_l rfl rfl ?_
            conv => whnf
            refine br_r rfl rfl ?_
            conv => whnf
            refine br_r rfl rfl ?_
            conv => whnf
            apply ex_and
            · apply good_at ak20 rfl rfl rfl
              conv => whnf
              refine And.intro (by with_reducible rfl) ?_
              refine And.intro (by decide) ?_
              refine And.intro (by decide) ?_
              refine And.intro (by decide) ?_
              conv => whnf
              refine And.intro (by decide) ?_
              refine And.intro (by decide) ?_
              refine And.intro (by decide) ?_
              (conv => whnf) <;> with_reducible rfl
            · conv => whnf
              refine And.intro (by decide) ?_
              conv => whnf
              refine And.intro (by with_reducible rfl) ?_
              refine And.intro (by decide) ?_
              refine And.intro (by decide) ?_
              refine And.intro (by decide) ?_
              conv => whnf
              refine And.intro (by decide) ?_
              refine And.intro (by decide) ?_
              refine And.intro (by decide) ?_
              (conv => whnf) <;> with_reducible rfl
          · conv => whnf
            apply ex_and
            · apply good_at ak17 rfl rfl rfl
              conv => whnf
              refine br_r rfl rfl ?_
              conv => whnf
              refine And.intro (by decide) ?_
              conv => whnf
              apply ex_and
              · apply good_at ak20 rfl rfl rfl
                conv => whnf
                refine And.intro (by with_reducible rfl) ?_
                refine And.intro (by decide) ?_
                refine And.intro (by decide) ?_
                refine And.intro (by decide) ?_
                conv => whnf
                refine And.intro (by decide) ?_
                refine And.intro (by decide) ?_
                refine And.intro (by decide) ?_
                (conv => whnf) <;> with_reducible rfl
              · conv => whnf
                refine And.intro (by decide) ?_
                with_reducible refine ⟨_, rfl, ?_⟩
                (conv => whnf) <;> with_reducible rfl
            · conv => whnf
              apply ex_and
              · apply good_at ak17 rfl rfl rfl
                conv => whnf
                refine br_l rfl rfl ?_
                (conv => whnf) <;> with_reducible rfl
              · conv => whnf
                apply ex_and
                · apply good_at ak14 rfl rfl rfl
                  conv => whnf
                  refine br_r rfl rfl ?_
                  conv => whnf
                  refine br_r rfl rfl ?_
                  conv => whnf
                  refine br_l rfl rfl ?_
                  conv => whnf
                  refine br_l rfl rfl ?_
                  (conv => whnf) <;> with_reducible rfl
                · conv => whnf
                  apply ex_and
                  · apply good_at ak16 rfl rfl rfl
                    conv => whnf
                    refine br_l rfl rfl ?_
                    conv => whnf
                    refine br_l rfl rfl ?_
                    conv => whnf
                    refine br_l rfl rfl ?_
                    conv => whnf
                    refine br_r rfl rfl ?_
                    conv => whnf
                    refine br_l rfl rfl ?_
                    (conv => whnf) <;> with_reducible rfl
                  · conv => whnf
                    refine br_l rfl rfl ?_
                    conv => whnf
                    refine br_l rfl rfl ?_
                    conv => whnf
                    refine br_l rfl rfl ?_
                    conv => whnf
                    refine br_l rfl rfl ?_
                    conv => whnf
                    refine br_r rfl rfl ?_
                    conv => whnf
                    refine br_r rfl rfl ?_
                    conv => whnf
                    refine br_l rfl rfl ?_
                    conv => whnf
                    refine br_l rfl rfl ?_
                    conv => whnf
                    refine br_l rfl rfl ?_
                    conv => whnf
                    refine br_l rfl rfl ?_
                    conv => whnf
                    refine br_l rfl rfl ?_
                    conv => whnf
                    refine br_l rfl rfl ?_
                    conv => whnf
                    refine br_l rfl rfl ?_
                    conv => whnf
                    refine br_l rfl rfl ?_
                    conv => whnf
                    refine br_l rfl rfl ?_
                    conv => whnf
                    refine And.intro (by decide) ?_
                    with_reducible refine ⟨_, rfl, ?_⟩
                    conv => whnf
                    refine br_l rfl rfl ?_
                    conv => whnf
                    refine br_l rfl rfl ?_
                    conv => whnf
                    refine br_l rfl rfl ?_
                    conv => whnf
                    refine br_l rfl rfl ?_
                    conv => whnf
                    refine br_l rfl rfl ?_
                    conv => whnf
                    refine br_l rfl rfl ?_
                    conv => whnf
                    refine br_l rfl rfl ?_
                    conv => whnf
                    refine br_l rfl rfl ?_
                    conv => whnf
                    refine br_l rfl rfl ?_
                    conv => whnf
                    refine br_l rfl rfl ?_
                    conv => whnf
                    refine br_l rfl rfl ?_
                    conv => whnf
                    refine br_l rfl rfl ?_
                    conv => whnf
                    refine And.intro (by decide) ?_
                    with_reducible refine ⟨_, rfl, ?_⟩
                    conv => whnf
                    refine br_l rfl rfl ?_
                    conv => whnf
                    refine br_l rfl rfl ?_
                    conv => whnf
                    refine br_l rfl rfl ?_
                    conv => whnf
                    refine br_l rfl rfl ?_
                    conv => whnf
                    refine br_l rfl rfl ?_
                    conv => whnf
                    refine br_l rfl rfl ?_
                    conv => whnf
                    refine br_l rfl rfl ?_
                    conv => whnf
                    refine br_l rfl rfl ?_
                    conv => whnf
                    refine br_l rfl rfl ?_
                    conv => whnf
                    refine br_l rfl rfl ?_
                    conv => whnf
                    refine br_l rfl rfl ?_
                    conv => whnf
                    refine br_l rfl rfl ?_
                    conv => whnf
                    refine br_l rfl rfl ?_
                    conv => whnf
                    refine br_l rfl rfl ?_
                    conv => whnf
                    apply ex_and
                    · apply good_at ak18 rfl rfl rfl
                      (conv => whnf) <;> with_reducible rfl
                    · conv => whnf
                      refine br_l rfl rfl ?_
                      conv => whnf
                      refine br_l rfl rfl ?_
                      conv => whnf
                      refine br_l rfl rfl ?_
                      conv => whnf
                      refine br_l rfl rfl ?_
                      conv => whnf
                      refine br_l rfl rfl ?_
                      conv => whnf
                      apply ex_and
                      · apply good_at ak19 rfl rfl rfl
                        conv => whnf
                        refine br_l rfl rfl ?_
                        conv => whnf
                        refine br_l rfl rfl ?_
                        conv => whnf
                        refine br_l rfl rfl ?_
                        conv => whnf
                        refine br_l rfl rfl ?_
                        conv => whnf
                        refine br_l rfl rfl ?_
                        conv => whnf
                        apply ex_and
                        · apply good_at ak24 rfl rfl rfl
                          conv => whnf
                          refine br_r rfl rfl ?_
                          conv => whnf
                          refine loop_run 300 ?_
                          conv => whnf
                          refine ⟨[], ?_⟩
                          refine And.intro (by decide) ?_
                          conv => whnf
                          refine br_l rfl rfl ?_
                          conv => whnf
                          refine And.intro (by decide) ?_
                          conv => whnf
                          refine And.intro (by decide) ?_
                          with_reducible refine ⟨_, rfl, ?_⟩
                          conv => whnf
                          refine And.intro (by decide) ?_
                          with_reducible refine ⟨_, rfl, ?_⟩
                          conv => whnf
                          refine br_r rfl rfl ?_
                          conv => whnf
                          refine ⟨[], ?_⟩
                          refine And.intro (by decide) ?_
                          conv => whnf
                          refine br_l rfl rfl ?_
                          conv => whnf
                          refine And.intro (by decide) ?_
                          conv => whnf
                          refine And.intro (by decide) ?_
                          with_reducible refine ⟨_, rfl, ?_⟩
                          conv => whnf
                          refine And.intro (by decide) ?_
                          with_reducible refine ⟨_, rfl, ?_⟩
                          conv => whnf
                          refine br_r rfl rfl ?_
                          conv => whnf
                          refine ⟨[], ?_⟩
                          refine And.intro (by decide) ?_
                          conv => whnf
                          refine br_r rfl rfl ?_
                          (conv => whnf) <;> with_reducible rfl
                        · conv => whnf
                          refine br_l rfl rfl ?_
                          (conv => whnf) <;> with_reducible rfl
                      · conv => whnf
                        refine br_l rfl rfl ?_
                        conv => whnf
                        refine br_l rfl rfl ?_
                        conv => whnf
                        refine br_l rfl rfl ?_
                        conv => whnf
                        refine br_l rfl rfl ?_
                        conv => whnf
                        apply ex_and
                        · apply good_at ak19 rfl rfl rfl
                          conv => whnf
                          refine br_l rfl rfl ?_
                          conv => whnf
                          refine br_l rfl rfl ?_
                          conv => whnf
                          refine br_l rfl rfl ?_
                          conv => whnf
                          refine br_l rfl rfl ?_
                          conv => whnf
                          refine br_l rfl rfl ?_
                          conv => whnf
                          apply ex_and
                          · apply good_at ak24 rfl rfl rfl
                            conv => whnf
                            refine br_l rfl rfl ?_
                            (conv => whnf) <;> with_reducible rfl
                          · conv => whnf
                            refine br_l rfl rfl ?_
                            (conv => whnf) <;> with_reducible rfl
                        · conv => whnf
                          refine br_l rfl rfl ?_
                          conv => whnf
                          refine br_l rfl rfl ?_
                          conv => whnf
                          refine AV.of_eqv ?_
                          conv => whnf
                          refine And.intro (by decide) ?_
                          exact True.intro
theorem cut_good (xs : List (List AV)) (l : List By) (a b : Int) (hx : xs = l.map sr) (h : 0 ≤ a ∧ a ≤ b ∧ b ≤ l.length) (hl : l.length ≤ 1000000) : Good Try.prog 20 [.sl .sh 1 xs, .int .i64 a, .int .i64 b] (.sl .own 1 (((l.take b.toNat).drop a.toNat).map sr)) := by
  subst hx
  apply good_at ak20 rfl rfl rfl
  conv => whnf
  refine And.intro (by with_reducible rfl) ?_
  refine And.intro (by omega) ?_
  refine And.intro (by omega) ?_
  refine And.intro (by (simp only [map_rows, maxLen_eq, List.length_drop, List.length_take, List.length_nil] at *; omega)) ?_
  conv => whnf
  refine And.intro (by (simp [List.map_take, List.map_drop]; done)) ?_
  refine And.intro (by (simp only [map_rows, maxLen_eq, List.length_drop, List.length_take, List.length_nil] at *; omega)) ?_
  refine And.intro (by (simp only [map_rows, maxLen_eq, List.length_drop, List.length_take, List.length_nil] at *; omega)) ?_
  conv => whnf
  refine AV.of_eqv ?_
  conv => whnf
  refine And.intro (by (simp [List.map_take, List.map_drop]; done)) ?_
  exact True.intro
theorem head_at {l : List By} {x : By} (h : l[0]? = some x) : l.headD [] = x := by cases l <;> simp_all
theorem drop_at {α : Type} {l : List α} {i : Nat} {x : α} (h : l[i]? = some x) : l.drop i = x :: l.drop (i + 1) := by
  have hi := lt_at h
  rw [List.drop_eq_getElem_cons hi, show l[i] = x by rw [List.getElem?_eq_getElem hi] at h; exact Option.some.inj h]
theorem ex_row_r {α : Type} {f : α → List AV} {l : List α} {i : Nat} {y : α} {K : List AV → Prop} (hy : l[i]? = some y) (h : K (f y)) : ∃ c, (l.map f)[i]? = some c ∧ K c :=
  ⟨f y, by rw [List.getElem?_map, hy]; rfl, h⟩
/-- the text at a place -/
def pkR (l : List By) (i : Int) : By × Bool := if 0 ≤ i ∧ i < l.length then (l.getD i.toNat [], true) else ([], false)
theorem pk_in {l : List By} {i : Int} {x : By} (h : 0 ≤ i) (hx : l[i.toNat]? = some x) : pkR l i = (x, true) := by
  have := lt_at hx
  unfold pkR
  rw [if_pos (by omega), List.getD_eq_getElem?_getD, hx]
  rfl
theorem pk_out {l : List By} {i : Int} (h : ¬ (0 ≤ i ∧ i < l.length)) : pkR l i = ([], false) := if_neg h
theorem peek_good (room : Int) (l : List By) (i : Int) : Good Try.prog 5 [eQ room l, .int .i64 i] (.tuple [.str (pkR l i).1, .bool (pkR l i).2]) := by
  by_cases h : 0 ≤ i ∧ i < l.length
  · obtain ⟨x, hx⟩ : ∃ x, l[i.toNat]? = some x := ⟨_, List.getElem?_eq_getElem (by omega)⟩
    have hi := h.1
    rw [pk_in h.1 hx]
    apply good_at ak5 rfl rfl rfl
    conv => whnf
    refine And.intro (fun hc0 => ?_) (fun hc0 => ?_)
    · replace hc0 := of_decide_eq_false hc0
      conv => whnf
      refine br_l rfl rfl ?_
      conv => whnf
      refine br_l rfl rfl ?_
      conv => whnf
      refine br_l rfl rfl ?_
      conv => whnf
      refine br_l rfl rfl ?_
      conv => whnf
      refine br_r rfl rfl ?_
      conv => whnf
      refine And.intro (fun hc1 => ?_) (fun hc1 => ?_)
      · replace hc1 := of_decide_eq_true hc1
        (exfalso; simp only [map_rows] at *; omega)
      · replace hc1 := of_decide_eq_false hc1
        conv => whnf
        refine And.intro (by assumption) ?_
        refine ex_row_r hx ?_
        conv => whnf
        refine AV.of_eqv ?_
        conv => whnf
        refine And.intro (by with_reducible rfl) ?_
        conv => whnf
        refine And.intro (by with_reducible rfl) ?_
        exact True.intro
    · replace hc0 := of_decide_eq_true hc0
      (exfalso; omega)
  · rw [pk_out h]
    apply good_at ak5 rfl rfl rfl
    conv => whnf
    refine And.intro (fun hc0 => ?_) (fun hc0 => ?_)
    · replace hc0 := of_decide_eq_false hc0
      conv => whnf
      refine br_l rfl rfl ?_
      conv => whnf
      refine br_l rfl rfl ?_
      conv => whnf
      refine br_l rfl rfl ?_
      conv => whnf
      refine br_l rfl rfl ?_
      conv => whnf
      refine br_r rfl rfl ?_
      conv => whnf
      refine And.intro (fun hc1 => ?_) (fun hc1 => ?_)
      · replace hc1 := of_decide_eq_true hc1
        conv => whnf
        refine AV.of_eqv ?_
        conv => whnf
        refine And.intro (by with_reducible rfl) ?_
        conv => whnf
        refine And.intro (by with_reducible rfl) ?_
        exact True.intro
      · replace hc1 := of_decide_eq_false hc1
        (exfalso; simp only [map_rows] at *; omega)
    · replace hc0 := of_decide_eq_true hc0
      conv => whnf
      refine br_r rfl rfl ?_
      conv => whnf
      refine br_r rfl rfl ?_
      conv => whnf
      refine br_r rfl rfl ?_
      conv => whnf
      refine br_r rfl rfl ?_
      conv => whnf
      refine br_l rfl rfl ?_
      conv => whnf
      refine br_l rfl rfl ?_
      conv => whnf
      refine AV.of_eqv ?_
      conv => whnf
      refine And.intro (by with_reducible rfl) ?_
      conv => whnf
      refine And.intro (by with_reducible rfl) ?_
      exact True.intro
theorem rpeek_good (room : Int) (l : List By) (i : Int) : Good Try.prog 6 [eQ room l, .int .i64 i] (.tuple [.str (pkR l i).1, .bool (pkR l i).2]) := by
  by_cases h : 0 ≤ i ∧ i < l.length
  · obtain ⟨x, hx⟩ : ∃ x, l[i.toNat]? = some x := ⟨_, List.getElem?_eq_getElem (by omega)⟩
    have hi := h.1
    rw [pk_in h.1 hx]
    apply good_at ak6 rfl rfl rfl
    conv => whnf
    refine And.intro (fun hc0 => ?_) (fun hc0 => ?_)
    · replace hc0 := of_decide_eq_false hc0
      conv => whnf
      refine br_l rfl rfl ?_
      conv => whnf
      refine br_l rfl rfl ?_
      conv => whnf
      refine br_l rfl rfl ?_
      conv => whnf
      refine br_l rfl rfl ?_
      conv => whnf
      refine br_r rfl rfl ?_
      conv => whnf
      refine And.intro (fun hc1 => ?_) (fun hc1 => ?_)
      · replace hc1 := of_decide_eq_true hc1
        (exfalso; simp only [map_rows] at *; omega)
      · replace hc1 := of_decide_eq_false hc1
        conv => whnf
        refine And.intro (by assumption) ?_
        refine ex_row_r hx ?_
        conv => whnf
        refine AV.of_eqv ?_
        conv => whnf
        refine And.intro (by with_reducible rfl) ?_
        conv => whnf
        refine And.intro (by with_reducible rfl) ?_
        exact True.intro
    · replace hc0 := of_decide_eq_true hc0
      (exfalso; omega)
  · rw [pk_out h]
    apply good_at ak6 rfl rfl rfl
    conv => whnf
    refine And.intro (fun hc0 => ?_) (fun hc0 => ?_)
    · replace hc0 := of_decide_eq_false hc0
      conv => whnf
      refine br_l rfl rfl ?_
      conv => whnf
      refine br_l rfl rfl ?_
      conv => whnf
      refine br_l rfl rfl ?_
      conv => whnf
      refine br_l rfl rfl ?_
      conv => whnf
      refine br_r rfl rfl ?_
      conv => whnf
      refine And.intro (fun hc1 => ?_) (fun hc1 => ?_)
      · replace hc1 := of_decide_eq_true hc1
        conv => whnf
        refine AV.of_eqv ?_
        conv => whnf
        refine And.intro (by with_reducible rfl) ?_
        conv => whnf
        refine And.intro (by with_reducible rfl) ?_
        exact True.intro
      · replace hc1 := of_decide_eq_false hc1
        (exfalso; simp only [map_rows] at *; omega)
    · replace hc0 := of_decide_eq_true hc0
      conv => whnf
      refine br_r rfl rfl ?_
      conv => whnf
      refine br_r rfl rfl ?_
      conv => whnf
      refine br_r rfl rfl ?_
      conv => whnf
      refine br_r rfl rfl ?_
      conv => whnf
      refine br_l rfl rfl ?_
      conv => whnf
      refine br_l rfl rfl ?_
      conv => whnf
      refine AV.of_eqv ?_
      conv => whnf
      refine And.intro (by with_reducible rfl) ?_
      conv => whnf
      refine And.intro (by with_reducible rfl) ?_
      exact True.intro
/-- the first place of a text -/
def fndR (s : By) : Nat → List By → Int
  | _, [] => -1
  | i, x :: r => if s = x then (i : Int) else fndR s (i + 1) r
def fnd (l : List By) (s : By) : Int := fndR s 0 l
theorem fnd_end {l : List By} {s : By} {i : Nat} (h : fndR s i (l.drop i) = fnd l s) (hi : ¬ i < l.length) : fnd l s = -1 := by
  rw [← h, List.drop_of_length_le (by omega)]; rfl
theorem fnd_at {l : List By} {s x : By} {i : Nat} (h : fndR s i (l.drop i) = fnd l s) (hx : l[i]? = some x) (he : s = x) : fnd l s = i := by
  rw [← h, drop_at hx]; unfold fndR; rw [if_pos he]
theorem fnd_step {l : List By} {s x : By} {i : Nat} (h : fndR s i (l.drop i) = fnd l s) (hx : l[i]? = some x) (he : ¬ s = x) : fndR s (i + 1) (l.drop (i + 1)) = fnd l s := by
  rw [← h, drop_at hx]; conv => rhs; unfold fndR
  rw [if_neg he]
theorem index_good (l : List By) (s : By) (hl : l.length ≤ 1000000) : Good Try.prog 23 [.sl .sh 1 (l.map sr), .str s] (.int .i64 (fnd l s)) := by
  apply good_at ak23 rfl rfl rfl
  conv => whnf
  refine loop_at (α := Nat) [] (fun i => [(8, .int .i64 (i : Int))]) (fun i => []) (fun i => i ≤ l.length ∧ fndR s i (l.drop i) = fnd l s) (fun i => l.length - i) (0) (st_of ?_) ?_ (by rintro i _; rfl) ?_
  · conv => whnf
    refine And.intro (by with_reducible rfl) ?_
    conv => whnf
    refine And.intro (by with_reducible rfl) ?_
    conv => whnf
    refine And.intro (by with_reducible rfl) ?_
    conv => whnf
    refine And.intro (by with_reducible rfl) ?_
    conv => whnf
    refine And.intro (by decide) ?_
    exact True.intro
  · (exact ⟨by omega, rfl⟩)
  · rintro i nextl0 hIl0 ihl0
    try dsimp only at hIl0
    conv => whnf
    refine And.intro (fun hc0 => ?_) (fun hc0 => ?_)
    · replace hc0 := of_decide_eq_true hc0
      conv => whnf
      refine And.intro (by omega) ?_
      refine ex_row (l := l) ?_ fun x hx => ?_
      · (simp only [map_rows, maxLen_eq] at *; omega)
      · simp only [toNat_ofNat] at hx
        conv => whnf
        refine And.intro (fun hc2 => ?_) (fun hc2 => ?_)
        · replace hc2 := of_decide_eq_true hc2
          conv => whnf
          refine AV.of_eqv ?_
          conv => whnf
          refine And.intro (by (rw [fnd_at hIl0.2 hx (by assumption)])) ?_
          exact True.intro
        · replace hc2 := of_decide_eq_false hc2
          conv => whnf
          refine ihl0 (i + 1) _ ?_ ?_ (st_of ?_)
          · (have := lt_at hx; exact ⟨by omega, fnd_step hIl0.2 hx (by assumption)⟩)
          · (simp only [map_rows, maxLen_eq] at *; omega)
          · conv => whnf
            refine And.intro (by with_reducible rfl) ?_
            conv => whnf
            refine And.intro (by with_reducible rfl) ?_
            conv => whnf
            refine And.intro (by with_reducible rfl) ?_
            conv => whnf
            refine And.intro (by with_reducible rfl) ?_
            conv => whnf
            refine And.intro (by (simp only [wrap_i64, wrap_u64, wrap_u32, wrap_u16, wrap_u8, maxLen_eq, mmI] at *; omega)) ?_
            exact True.intro
    · replace hc0 := of_decide_eq_false hc0
      conv => whnf
      refine AV.of_eqv ?_
      conv => whnf
      refine And.intro (by (rw [fnd_end hIl0.2 (by simp only [map_rows] at *; omega)])) ?_
      exact True.intro
theorem find_good (room : Int) (l : List By) (s : By) (hl : l.length ≤ 1000000) : Good Try.prog 12 [eQ room l, .str s] (.int .i64 (fnd l s)) := by
  apply good_at ak12 rfl rfl rfl
  conv => whnf
  refine ⟨_, (index_good l s) ?_, ?_⟩
  · assumption
  · conv => whnf
    refine AV.of_eqv ?_
    conv => whnf
    refine And.intro (by with_reducible rfl) ?_
    exact True.intro
theorem rfind_good (room : Int) (l : List By) (s : By) (hl : l.length ≤ 1000000) : Good Try.prog 13 [eQ room l, .str s] (.int .i64 (fnd l s)) := by
  apply good_at ak13 rfl rfl rfl
  conv => whnf
  refine loop_at (α := Nat) [] (fun i => [(10, .int .i64 (i : Int))]) (fun i => []) (fun i => i ≤ l.length ∧ fndR s i (l.drop i) = fnd l s) (fun i => l.length - i) (0) (st_of ?_) ?_ (by rintro i _; rfl) ?_
  · conv => whnf
    refine And.intro (by with_reducible rfl) ?_
    conv => whnf
    refine And.intro (by with_reducible rfl) ?_
    conv => whnf
    refine And.intro (by with_reducible rfl) ?_
    conv => whnf
    refine And.intro (by with_reducible rfl) ?_
    refine And.intro (by with_reducible rfl) ?_
    conv => whnf
    refine And.intro (by with_reducible rfl) ?_
    refine And.intro (by with_reducible rfl) ?_
    conv => whnf
    refine And.intro (by with_reducible rfl) ?_
    conv => whnf
    refine And.intro (by with_reducible rfl) ?_
    conv => whnf
    refine And.intro (by decide) ?_
    conv => whnf
    refine And.intro (by with_reducible rfl) ?_
    conv => whnf
    refine And.intro (by with_reducible rfl) ?_
    exact True.intro
  · (exact ⟨by omega, rfl⟩)
  · rintro i nextl0 hIl0 ihl0
    try dsimp only at hIl0
    conv => whnf
    refine And.intro (fun hc0 => ?_) (fun hc0 => ?_)
    · replace hc0 := of_decide_eq_true hc0
      conv => whnf
      refine And.intro (by omega) ?_
      refine ex_row (l := l) ?_ fun x hx => ?_
      · (simp only [map_rows, maxLen_eq] at *; omega)
      · simp only [toNat_ofNat] at hx
        conv => whnf
        refine And.intro (fun hc2 => ?_) (fun hc2 => ?_)
        · replace hc2 := of_decide_eq_true hc2
          conv => whnf
          refine AV.of_eqv ?_
          conv => whnf
          refine And.intro (by (rw [fnd_at hIl0.2 hx (Eq.symm (by assumption))])) ?_
          exact True.intro
        · replace hc2 := of_decide_eq_false hc2
          conv => whnf
          refine ihl0 (i + 1) _ ?_ ?_ (st_of ?_)
          · (have := lt_at hx; exact ⟨by omega, fnd_step hIl0.2 hx (fun h => absurd h.symm (by assumption))⟩)
          · (simp only [map_rows, maxLen_eq] at *; omega)
          · conv => whnf
            refine And.intro (by with_reducible rfl) ?_
            conv => whnf
            refine And.intro (by with_reducible rfl) ?_
            conv => whnf
            refine And.intro (by with_reducible rfl) ?_
            conv => whnf
            refine And.intro (by with_reducible rfl) ?_
            refine And.intro (by with_reducible rfl) ?_
            conv => whnf
            refine And.intro (by with_reducible rfl) ?_
            refine And.intro (by with_reducible rfl) ?_
            conv => whnf
            refine And.intro (by with_reducible rfl) ?_
            conv => whnf
            refine And.intro (by with_reducible rfl) ?_
            conv => whnf
            refine And.intro (by (simp only [wrap_i64, wrap_u64, wrap_u32, wrap_u16, wrap_u8, maxLen_eq, mmI] at *; omega)) ?_
            conv => whnf
            refine And.intro (by with_reducible rfl) ?_
            conv => whnf
            refine And.intro (by with_reducible rfl) ?_
            exact True.intro
    · replace hc0 := of_decide_eq_false hc0
      conv => whnf
      refine AV.of_eqv ?_
      conv => whnf
      refine And.intro (by (rw [fnd_end hIl0.2 (by simp only [map_rows] at *; omega)])) ?_
      exact True.intro
theorem rtake_good (room : Int) (l : List By) (hl : l.length ≤ 100000) : Good Try.prog 21 [eQ room l] (.tuple [eQ room (l.drop 1), .str (l.headD []), .int .i64 (if l.length = 0 then 9 else 0)]) := by
  apply good_sh ak21 rfl rfl rfl
  conv => whnf
  refine And.intro (fun hc0 => ?_) (fun hc0 => ?_)
  · replace hc0 := of_decide_eq_true hc0
    conv => whnf
    refine AV.of_eqv ?_
    conv => whnf
    refine And.intro (by with_reducible rfl) ?_
    conv => whnf
    refine And.intro (by (have h0 : l = [] := List.eq_nil_of_length_eq_zero (by simp only [map_rows] at *; omega); subst h0; rfl)) ?_
    conv => whnf
    refine And.intro (by (have h0 : l = [] := List.eq_nil_of_length_eq_zero (by simp only [map_rows] at *; omega); subst h0; rfl)) ?_
    conv => whnf
    refine And.intro (by (simp only [map_rows, maxLen_eq, List.length_drop, List.length_take, List.length_nil] at *; omega)) ?_
    exact True.intro
  · replace hc0 := of_decide_eq_false hc0
    conv => whnf
    refine And.intro (by decide) ?_
    refine ex_row (l := l) ?_ fun x hx => ?_
    · (simp only [map_rows, maxLen_eq, List.length_drop, List.length_take, List.length_nil] at *; omega)
    · conv => whnf
      refine And.intro (by decide) ?_
      refine And.intro (by omega) ?_
      refine And.intro (by omega) ?_
      conv => whnf
      refine And.intro (by (simp; done)) ?_
      refine And.intro (by (simp only [map_rows, maxLen_eq, List.length_drop, List.length_take, List.length_nil] at *; omega)) ?_
      refine And.intro (by (simp only [map_rows, maxLen_eq, List.length_drop, List.length_take, List.length_nil] at *; omega)) ?_
      conv => whnf
      refine AV.of_eqv ?_
      conv => whnf
      refine And.intro (by with_reducible rfl) ?_
      conv => whnf
      refine And.intro (by (rw [List.nil_append, Int.toNat_natCast, List.take_length, ← List.map_drop]; rfl)) ?_
      conv => whnf
      refine And.intro (by (rw [head_at hx])) ?_
      conv => whnf
      refine And.intro (by (simp only [map_rows, maxLen_eq, List.length_drop, List.length_take, List.length_nil] at *; omega)) ?_
      exact True.intro
theorem rput_good (room : Int) (l : List By) (s : By) (hl : l.length ≤ 100000) : Good Try.prog 22 [eQ room l, .str s] (.tuple [eQ room (if room ≤ l.length then l else l ++ [s]), .int .i64 (if room ≤ l.length then 8 else 0)]) := by
  apply good_sh ak22 rfl rfl rfl
  conv => whnf
  refine And.intro (fun hc0 => ?_) (fun hc0 => ?_)
  · replace hc0 := of_decide_eq_true hc0
    conv => whnf
    refine AV.of_eqv ?_
    conv => whnf
    refine And.intro (by with_reducible rfl) ?_
    conv => whnf
    refine And.intro (by (rw [if_pos (by simp only [map_rows] at *; omega)])) ?_
    conv => whnf
    refine And.intro (by (simp only [map_rows, maxLen_eq, List.length_drop, List.length_take, List.length_nil, List.length_cons, List.length_append] at *; omega)) ?_
    exact True.intro
  · replace hc0 := of_decide_eq_false hc0
    conv => whnf
    refine And.intro (by (simp; done)) ?_
    refine And.intro (by (simp only [map_rows, maxLen_eq, List.length_drop, List.length_take, List.length_nil, List.length_cons, List.length_append] at *; omega)) ?_
    refine And.intro (by (simp only [map_rows, maxLen_eq, List.length_drop, List.length_take, List.length_nil, List.length_cons, List.length_append] at *; omega)) ?_
    conv => whnf
    refine And.intro (by (simp; done)) ?_
    refine And.intro (by (simp only [map_rows, maxLen_eq, List.length_drop, List.length_take, List.length_nil, List.length_cons, List.length_append] at *; omega)) ?_
    refine And.intro (by (simp only [map_rows, maxLen_eq, List.length_drop, List.length_take, List.length_nil, List.length_cons, List.length_append] at *; omega)) ?_
    conv => whnf
    refine AV.of_eqv ?_
    conv => whnf
    refine And.intro (by with_reducible rfl) ?_
    conv => whnf
    refine And.intro (by (rw [if_neg (by simp only [map_rows] at *; omega)]; simp [sr]; done)) ?_
    conv => whnf
    refine And.intro (by (simp only [map_rows, maxLen_eq, List.length_drop, List.length_take, List.length_nil, List.length_cons, List.length_append] at *; omega)) ?_
    exact True.intro
theorem rsame_good (r r' : Int) (l m : List By) (hl : l.length ≤ 1000000) (hm : m.length ≤ 1000000) : Good Try.prog 11 [eQ r l, eQ r' m] (.bool (decide (r = r' ∧ l = m))) := by
  apply good_at ak11 rfl rfl rfl
  conv => whnf
  refine And.intro (fun hc0 => ?_) (fun hc0 => ?_)
  · replace hc0 := of_decide_eq_true (Bool.not_eq_false' _ |>.mp hc0)
    conv => whnf
    refine br_l rfl rfl ?_
    conv => whnf
    refine br_l rfl rfl ?_
    conv => whnf
    refine br_l rfl rfl ?_
    conv => whnf
    refine br_l rfl rfl ?_
    conv => whnf
    refine br_l rfl rfl ?_
    conv => whnf
    refine br_l rfl rfl ?_
    conv => whnf
    refine br_r rfl rfl ?_
    conv => whnf
    refine And.intro (fun hc1 => ?_) (fun hc1 => ?_)
    · replace hc1 := of_decide_eq_false (Bool.not_eq_true' _ |>.mp hc1)
      conv => whnf
      refine AV.of_eqv ?_
      conv => whnf
      refine And.intro (by (exact (decide_eq_false (by rintro ⟨h1, h2⟩; subst h2; omega)).symm)) ?_
      exact True.intro
    · replace hc1 := of_decide_eq_true (Bool.not_eq_false' _ |>.mp hc1)
      conv => whnf
      refine loop_at (α := Nat) [] (fun i => [(23, .int .i64 (i : Int))]) (fun i => []) (fun i => i ≤ l.length ∧ l.take i = m.take i) (fun i => l.length - i) (0) (st_of ?_) ?_ (by rintro i _; rfl) ?_
      · conv => whnf
        refine And.intro (by with_reducible rfl) ?_
        conv => whnf
        refine And.intro (by with_reducible rfl) ?_
        conv => whnf
        refine And.intro (by with_reducible rfl) ?_
        conv => whnf
        refine And.intro (by with_reducible rfl) ?_
        conv => whnf
        refine And.intro (by with_reducible rfl) ?_
        refine And.intro (by with_reducible rfl) ?_
        conv => whnf
        refine And.intro (by with_reducible rfl) ?_
        refine And.intro (by with_reducible rfl) ?_
        conv => whnf
        refine And.intro (by with_reducible rfl) ?_
        refine And.intro (by with_reducible rfl) ?_
        conv => whnf
        refine And.intro (by with_reducible rfl) ?_
        conv => whnf
        refine And.intro (by with_reducible rfl) ?_
        refine And.intro (by with_reducible rfl) ?_
        conv => whnf
        refine And.intro (by with_reducible rfl) ?_
        conv => whnf
        refine And.intro (by with_reducible rfl) ?_
        conv => whnf
        refine And.intro (by with_reducible rfl) ?_
        conv => whnf
        refine And.intro (by with_reducible rfl) ?_
        refine And.intro (by with_reducible rfl) ?_
        conv => whnf
        refine And.intro (by with_reducible rfl) ?_
        conv => whnf
        refine And.intro (by with_reducible rfl) ?_
        conv => whnf
        refine And.intro (by with_reducible rfl) ?_
        refine And.intro (by with_reducible rfl) ?_
        conv => whnf
        refine And.intro (by with_reducible rfl) ?_
        conv => whnf
        refine And.intro (by with_reducible rfl) ?_
        conv => whnf
        refine And.intro (by with_reducible rfl) ?_
        conv => whnf
        refine And.intro (by with_reducible rfl) ?_
        conv => whnf
        refine And.intro (by with_reducible rfl) ?_
        refine And.intro (by with_reducible rfl) ?_
        conv => whnf
        refine And.intro (by with_reducible rfl) ?_
        conv => whnf
        refine And.intro (by with_reducible rfl) ?_
        conv => whnf
        refine And.intro (by decide) ?_
        conv => whnf
        refine And.intro (by with_reducible rfl) ?_
        conv => whnf
        refine And.intro (by with_reducible rfl) ?_
        conv => whnf
        refine And.intro (by with_reducible rfl) ?_
        conv => whnf
        refine And.intro (by with_reducible rfl) ?_
        exact True.intro
      · (exact ⟨by omega, rfl⟩)
      · rintro i nextl0 hIl0 ihl0
        try dsimp only at hIl0
        conv => whnf
        refine And.intro (fun hc2 => ?_) (fun hc2 => ?_)
        · replace hc2 := of_decide_eq_true hc2
          conv => whnf
          refine And.intro (by exact rfl) ?_
          conv => whnf
          refine And.intro (by omega) ?_
          refine ex_row (l := l) ?_ fun x hx => ?_
          · (simp only [map_rows, maxLen_eq] at *; omega)
          · simp only [toNat_ofNat] at hx
            conv => whnf
            refine And.intro (by omega) ?_
            refine ex_row (l := m) ?_ fun y hy => ?_
            · (simp only [map_rows, maxLen_eq] at *; omega)
            · simp only [toNat_ofNat] at hy
              conv => whnf
              refine And.intro (fun hc5 => ?_) (fun hc5 => ?_)
              · replace hc5 := of_decide_eq_false (Bool.not_eq_true' _ |>.mp hc5)
                conv => whnf
                refine AV.of_eqv ?_
                conv => whnf
                refine And.intro (by (exact (decide_eq_false (by rintro ⟨h1, h2⟩; exact absurd h2 (ne_at hx hy (by assumption)))).symm)) ?_
                exact True.intro
              · replace hc5 := of_decide_eq_true (Bool.not_eq_false' _ |>.mp hc5)
                conv => whnf
                refine ihl0 (i + 1) _ ?_ ?_ (st_of ?_)
                · (have := lt_at hx; exact ⟨by omega, eq_next hIl0.2 hx hy (by assumption)⟩)
                · (simp only [map_rows, maxLen_eq] at *; omega)
                · conv => whnf
                  refine And.intro (by with_reducible rfl) ?_
                  conv => whnf
                  refine And.intro (by with_reducible rfl) ?_
                  conv => whnf
                  refine And.intro (by with_reducible rfl) ?_
                  conv => whnf
                  refine And.intro (by with_reducible rfl) ?_
                  conv => whnf
                  refine And.intro (by with_reducible rfl) ?_
                  refine And.intro (by with_reducible rfl) ?_
                  conv => whnf
                  refine And.intro (by with_reducible rfl) ?_
                  refine And.intro (by with_reducible rfl) ?_
                  conv => whnf
                  refine And.intro (by with_reducible rfl) ?_
                  refine And.intro (by with_reducible rfl) ?_
                  conv => whnf
                  refine And.intro (by with_reducible rfl) ?_
                  conv => whnf
                  refine And.intro (by with_reducible rfl) ?_
                  refine And.intro (by with_reducible rfl) ?_
                  conv => whnf
                  refine And.intro (by with_reducible rfl) ?_
                  conv => whnf
                  refine And.intro (by with_reducible rfl) ?_
                  conv => whnf
                  refine And.intro (by with_reducible rfl) ?_
                  conv => whnf
                  refine And.intro (by with_reducible rfl) ?_
                  refine And.intro (by with_reducible rfl) ?_
                  conv => whnf
                  refine And.intro (by with_reducible rfl) ?_
                  conv => whnf
                  refine And.intro (by with_reducible rfl) ?_
                  conv => whnf
                  refine And.intro (by with_reducible rfl) ?_
                  refine And.intro (by with_reducible rfl) ?_
                  conv => whnf
                  refine And.intro (by with_reducible rfl) ?_
                  conv => whnf
                  refine And.intro (by with_reducible rfl) ?_
                  conv => whnf
                  refine And.intro (by with_reducible rfl) ?_
                  conv => whnf
                  refine And.intro (by with_reducible rfl) ?_
                  conv => whnf
                  refine And.intro (by with_reducible rfl) ?_
                  refine And.intro (by with_reducible rfl) ?_
                  conv => whnf
                  refine And.intro (by with_reducible rfl) ?_
                  conv => whnf
                  refine And.intro (by with_reducible rfl) ?_
                  conv => whnf
                  refine And.intro (by (simp only [wrap_i64, wrap_u64, wrap_u32, wrap_u16, wrap_u8, maxLen_eq, mmI] at *; omega)) ?_
                  conv => whnf
                  refine And.intro (by with_reducible rfl) ?_
                  conv => whnf
                  refine And.intro (by with_reducible rfl) ?_
                  conv => whnf
                  refine And.intro (by with_reducible rfl) ?_
                  conv => whnf
                  refine And.intro (by with_reducible rfl) ?_
                  exact True.intro
        · replace hc2 := of_decide_eq_false hc2
          conv => whnf
          refine AV.of_eqv ?_
          conv => whnf
          refine And.intro (by (exact (decide_eq_true ⟨by assumption, eq_end hIl0.2 (by simp only [map_rows] at *; omega) (by simp only [map_rows] at *; omega)⟩).symm)) ?_
          exact True.intro
  · replace hc0 := of_decide_eq_false (Bool.not_eq_true' _ |>.mp hc0)
    conv => whnf
    refine br_r rfl rfl ?_
    conv => whnf
    refine br_r rfl rfl ?_
    conv => whnf
    refine br_r rfl rfl ?_
    conv => whnf
    refine br_r rfl rfl ?_
    conv => whnf
    refine br_r rfl rfl ?_
    conv => whnf
    refine br_r rfl rfl ?_
    conv => whnf
    refine br_l rfl rfl ?_
    conv => whnf
    refine br_l rfl rfl ?_
    conv => whnf
    refine AV.of_eqv ?_
    conv => whnf
    refine And.intro (by exact (decide_eq_false (by omega)).symm) ?_
    exact True.intro
end Go.Proofs.Ytgdkpiabahpleaa

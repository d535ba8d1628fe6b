/- Queues without doubles. -/
import Derived.Test.YtgdkpiabahpleaaR12
set_option maxRecDepth 100000
set_option linter.unusedSimpArgs false
set_option linter.unusedVariables false
namespace Go.Proofs.Ytgdkpiabahpleaa
open Go.RowKit
set_option maxHeartbeats 4000000
/-- each text once, where it first stands -/
def dd (l : List By) : List By := l.foldl (fun out x => if x ∈ out then out else out ++ [x]) []
theorem dd_take {l : List By} {i : Nat} {x : By} (hx : l[i]? = some x) : dd (l.take (i + 1)) = if x ∈ dd (l.take i) then dd (l.take i) else dd (l.take i) ++ [x] := by
  have hi := lt_at hx
  unfold dd
  rw [List.take_add_one, hx, List.foldl_append]
  rfl
theorem dd_mem : ∀ (i : Nat) (l : List By) (y : By), y ∈ dd (l.take i) ↔ y ∈ l.take i
  | 0, l, y => by simp [dd]
  | i + 1, l, y => by
    cases hx : l[i]? with
    | none =>
      rw [List.take_add_one, hx]
      simp only [Option.toList_none, List.append_nil]
      exact dd_mem i l y
    | some x =>
      have ih := dd_mem i l
      rw [dd_take hx, List.take_add_one, hx]
      split
      · rename_i h
        rw [ih y]
        simp only [Option.toList_some, List.mem_append, List.mem_singleton]
        exact ⟨.inl, fun hh => hh.elim id fun he => by rw [he]; exact (ih x).1 h⟩
      · simp only [Option.toList_some, List.mem_append, List.mem_singleton, ih y]
theorem dd_len : ∀ (i : Nat) (l : List By), (dd (l.take i)).length ≤ (l.take i).length
  | 0, l => by simp [dd]
  | i + 1, l => by
    have ih := dd_len i l
    cases hx : l[i]? with
    | none =>
      rw [List.take_add_one, hx]
      simpa using ih
    | some x =>
      rw [dd_take hx, List.take_add_one, hx]
      split
      · simp at ih ⊢; omega
      · simp at ih ⊢; omega
abbrev cnt (l : List By) : By → Int := fun s => (l.count s : Int)
theorem cnt_take {l : List By} {i : Nat} {x : By} (hx : l[i]? = some x) (y : By) : (l.take (i + 1)).count y = (l.take i).count y + if y = x then 1 else 0 := by
  rw [List.take_add_one, hx]
  simp only [Option.toList_some, List.count_append]
  congr 1
  by_cases h : y = x
  · subst h; simp
  · rw [if_neg h]
    exact List.count_eq_zero.2 (by simpa using h)
theorem cnt_le (l : List By) (i : Nat) (y : By) : (l.take i).count y ≤ l.length := Nat.le_trans List.count_le_length (by simp; omega)
theorem mp_start : (AV.mp fun _ => 0) = AV.mp (cnt ([] : List By)) := by
  congr 1
theorem cnt_wrap {l : List By} {i : Nat} (x : By) (hl : l.length ≤ 1000000) : IntKind.i64.wrap (cnt (l.take i) x + 1) = (((l.take i).count x + 1 : Nat) : Int) := by
  have hb := cnt_le l i x
  rw [wrap_i64]
  dsimp only [cnt]
  generalize (l.take i).count x = c at *
  omega
theorem mp_next {l : List By} {i : Nat} {x : By} (hl : l.length ≤ 1000000) (hx : l[i]? = some x) : (AV.mp fun y => if y = x then IntKind.i64.wrap (cnt (l.take i) x + 1) else cnt (l.take i) y) = AV.mp (cnt (l.take (i + 1))) := by
  congr 1
  funext y
  have h := cnt_take hx y
  rw [cnt_wrap x hl]
  by_cases hy : y = x
  · subst hy
    rw [if_pos rfl] at h ⊢
    show _ = (((l.take (i + 1)).count y : Nat) : Int)
    rw [h]
  · rw [if_neg hy] at h ⊢
    show _ = (((l.take (i + 1)).count y : Nat) : Int)
    rw [h]
    rfl
theorem once_iff {l : List By} {i : Nat} {x : By} (hl : l.length ≤ 1000000) : (fun y => if y = x then IntKind.i64.wrap (cnt (l.take i) x + 1) else cnt (l.take i) y) x = 1 ↔ ¬ x ∈ dd (l.take i) := by
  rw [cnt_wrap x hl, dd_mem, ← List.count_eq_zero (a := x)]
  show (if x = x then _ else _) = (1 : Int) ↔ _
  rw [if_pos rfl]
  omega
theorem dd_room {l : List By} {i : Nat} (hl : l.length ≤ 1000000) : (dd (l.take i)).length ≤ 1000000 := by
  have := dd_len i l
  simp at this
  omega
theorem dd_yes {l : List By} {i : Nat} {x : By} (hl : l.length ≤ 1000000) (hx : l[i]? = some x) (h : (fun y => if y = x then IntKind.i64.wrap (cnt (l.take i) x + 1) else cnt (l.take i) y) x = 1) : (dd (l.take i)).map sr ++ [[AV.str x]] = (dd (l.take (i + 1))).map sr := by
  rw [dd_take hx, if_neg ((once_iff hl).1 h), List.map_append]; rfl
theorem dd_no {l : List By} {i : Nat} {x : By} (hl : l.length ≤ 1000000) (hx : l[i]? = some x) (h : ¬ (fun y => if y = x then IntKind.i64.wrap (cnt (l.take i) x + 1) else cnt (l.take i) y) x = 1) : (dd (l.take i)).map sr = (dd (l.take (i + 1))).map sr := by
  rw [dd_take hx, if_pos (Decidable.not_not.1 fun hh => h ((once_iff hl).2 hh))]
theorem dd_end {l : List By} {i : Nat} (h : ¬ i < l.length) : (dd (l.take i)).map sr = (dd l).map sr := by
  rw [List.take_of_length_le (by omega)]
theorem dd_all {l : List By} (hl : l.length ≤ 1000000) : (dd l).length ≤ l.length := by
  have := dd_len l.length l
  rwa [List.take_length] at this
theorem only_good (room : Int) (l : List By) (hl : l.length ≤ 1000000) : Good Try.prog 7 [eQ room l] (.tuple [eQ room (dd l), .int .i64 ((l.length : Int) - (dd l).length)]) := by
  apply good_at ak7 rfl rfl rfl
  conv => whnf
  refine loop_at (α := Nat) [] (fun i => [(15, .int .i64 (i : Int)), (4, .mp (cnt (l.take i)))]) (fun i => [(2, some ⟨true, 2, [[.int .i64 room, .sl .own 1 ((dd (l.take i)).map sr)]]⟩)]) (fun i => i ≤ l.length) (fun i => l.length - i) (0) (st_of ?_) ?_ (by rintro i _; rfl) ?_
  · conv => whnf
    refine And.intro (by with_reducible rfl) ?_
    conv => whnf
    refine And.intro (by with_reducible rfl) ?_
    conv => whnf
    refine And.intro (by with_reducible rfl) ?_
    refine And.intro (by with_reducible rfl) ?_
    conv => whnf
    refine And.intro (by with_reducible rfl) ?_
    refine And.intro (by with_reducible rfl) ?_
    conv => whnf
    refine And.intro (by with_reducible rfl) ?_
    conv => whnf
    refine And.intro (by exact mp_start) ?_
    conv => whnf
    refine And.intro (by with_reducible rfl) ?_
    refine And.intro (by with_reducible rfl) ?_
    conv => whnf
    refine And.intro (by with_reducible rfl) ?_
    refine And.intro (by with_reducible rfl) ?_
    conv => whnf
    refine And.intro (by with_reducible rfl) ?_
    conv => whnf
    refine And.intro (by with_reducible rfl) ?_
    conv => whnf
    refine And.intro (by with_reducible rfl) ?_
    conv => whnf
    refine And.intro (by with_reducible rfl) ?_
    refine And.intro (by with_reducible rfl) ?_
    conv => whnf
    refine And.intro (by with_reducible rfl) ?_
    conv => whnf
    refine And.intro (by with_reducible rfl) ?_
    conv => whnf
    refine And.intro (by decide) ?_
    conv => whnf
    refine And.intro (by with_reducible rfl) ?_
    conv => whnf
    refine And.intro (by with_reducible rfl) ?_
    conv => whnf
    refine And.intro (by with_reducible rfl) ?_
    conv => whnf
    refine And.intro (by with_reducible rfl) ?_
    conv => whnf
    refine And.intro (by with_reducible rfl) ?_
    conv => whnf
    refine And.intro (by exact rfl) ?_
    exact True.intro
  · omega
  · rintro i nextl0 hIl0 ihl0
    try dsimp only at hIl0
    conv => whnf
    refine And.intro (fun hc0 => ?_) (fun hc0 => ?_)
    · replace hc0 := of_decide_eq_true hc0
      conv => whnf
      refine And.intro (by omega) ?_
      refine ex_row (l := l) ?_ fun x hx => ?_
      · (have := dd_room (i := i) hl; simp only [map_rows, maxLen_eq, List.length_map, List.length_singleton] at *; omega)
      · simp only [toNat_ofNat] at hx
        conv => whnf
        refine And.intro (fun hc2 => ?_) (fun hc2 => ?_)
        · replace hc2 := of_decide_eq_true hc2
          conv => whnf
          refine And.intro (by (simp; done)) ?_
          refine And.intro (by (have := dd_room (i := i) hl; simp only [map_rows, maxLen_eq, List.length_map, List.length_singleton] at *; omega)) ?_
          refine And.intro (by (have := dd_room (i := i) hl; simp only [map_rows, maxLen_eq, List.length_map, List.length_singleton] at *; omega)) ?_
          conv => whnf
          refine ihl0 (i + 1) _ ?_ ?_ (st_of ?_)
          · (have := dd_room (i := i) hl; simp only [map_rows, maxLen_eq, List.length_map, List.length_singleton] at *; omega)
          · (have := dd_room (i := i) hl; simp only [map_rows, maxLen_eq, List.length_map, List.length_singleton] at *; omega)
          · conv => whnf
            refine And.intro (by with_reducible rfl) ?_
            conv => whnf
            refine And.intro (by with_reducible rfl) ?_
            conv => whnf
            refine And.intro (by with_reducible rfl) ?_
            refine And.intro (by with_reducible rfl) ?_
            conv => whnf
            refine And.intro (by with_reducible rfl) ?_
            refine And.intro (by with_reducible rfl) ?_
            conv => whnf
            refine And.intro (by with_reducible rfl) ?_
            conv => whnf
            refine And.intro (by exact mp_next hl hx) ?_
            conv => whnf
            refine And.intro (by with_reducible rfl) ?_
            refine And.intro (by with_reducible rfl) ?_
            conv => whnf
            refine And.intro (by with_reducible rfl) ?_
            refine And.intro (by with_reducible rfl) ?_
            conv => whnf
            refine And.intro (by with_reducible rfl) ?_
            conv => whnf
            refine And.intro (by with_reducible rfl) ?_
            conv => whnf
            refine And.intro (by with_reducible rfl) ?_
            conv => whnf
            refine And.intro (by with_reducible rfl) ?_
            refine And.intro (by with_reducible rfl) ?_
            conv => whnf
            refine And.intro (by with_reducible rfl) ?_
            conv => whnf
            refine And.intro (by with_reducible rfl) ?_
            conv => whnf
            refine And.intro (by (simp only [wrap_i64, wrap_u64, wrap_u32, wrap_u16, wrap_u8, maxLen_eq, mmI] at *; omega)) ?_
            conv => whnf
            refine And.intro (by with_reducible rfl) ?_
            conv => whnf
            refine And.intro (by with_reducible rfl) ?_
            conv => whnf
            refine And.intro (by with_reducible rfl) ?_
            conv => whnf
            refine And.intro (by with_reducible rfl) ?_
            conv => whnf
            refine And.intro (by with_reducible rfl) ?_
            conv => whnf
            refine And.intro (by exact dd_yes hl hx (by assumption)) ?_
            exact True.intro
        · replace hc2 := of_decide_eq_false hc2
          conv => whnf
          refine ihl0 (i + 1) _ ?_ ?_ (st_of ?_)
          · (have := dd_room (i := i) hl; simp only [map_rows, maxLen_eq, List.length_map, List.length_singleton] at *; omega)
          · (have := dd_room (i := i) hl; simp only [map_rows, maxLen_eq, List.length_map, List.length_singleton] at *; omega)
          · conv => whnf
            refine And.intro (by with_reducible rfl) ?_
            conv => whnf
            refine And.intro (by with_reducible rfl) ?_
            conv => whnf
            refine And.intro (by with_reducible rfl) ?_
            refine And.intro (by with_reducible rfl) ?_
            conv => whnf
            refine And.intro (by with_reducible rfl) ?_
            refine And.intro (by with_reducible rfl) ?_
            conv => whnf
            refine And.intro (by with_reducible rfl) ?_
            conv => whnf
            refine And.intro (by exact mp_next hl hx) ?_
            conv => whnf
            refine And.intro (by with_reducible rfl) ?_
            refine And.intro (by with_reducible rfl) ?_
            conv => whnf
            refine And.intro (by with_reducible rfl) ?_
            refine And.intro (by with_reducible rfl) ?_
            conv => whnf
            refine And.intro (by with_reducible rfl) ?_
            conv => whnf
            refine And.intro (by with_reducible rfl) ?_
            conv => whnf
            refine And.intro (by with_reducible rfl) ?_
            conv => whnf
            refine And.intro (by with_reducible rfl) ?_
            refine And.intro (by with_reducible rfl) ?_
            conv => whnf
            refine And.intro (by with_reducible rfl) ?_
            conv => whnf
            refine And.intro (by with_reducible rfl) ?_
            conv => whnf
            refine And.intro (by (simp only [wrap_i64, wrap_u64, wrap_u32, wrap_u16, wrap_u8, maxLen_eq, mmI] at *; omega)) ?_
            conv => whnf
            refine And.intro (by with_reducible rfl) ?_
            conv => whnf
            refine And.intro (by with_reducible rfl) ?_
            conv => whnf
            refine And.intro (by with_reducible rfl) ?_
            conv => whnf
            refine And.intro (by with_reducible rfl) ?_
            conv => whnf
            refine And.intro (by with_reducible rfl) ?_
            conv => whnf
            refine And.intro (by exact dd_no hl hx (by assumption)) ?_
            exact True.intro
    · replace hc0 := of_decide_eq_false hc0
      conv => whnf
      refine And.intro (by exact rfl) ?_
      conv => whnf
      refine AV.of_eqv ?_
      conv => whnf
      refine And.intro (by with_reducible rfl) ?_
      conv => whnf
      refine And.intro (by exact dd_end (by simp only [map_rows] at *; omega)) ?_
      conv => whnf
      refine And.intro (by (rw [dd_end (by simp only [map_rows] at *; omega : ¬ i < l.length)]; have := dd_all hl; simp only [map_rows, wrap_i64] at *; omega)) ?_
      exact True.intro
/-- how many are moved -/
def mv (r' : Int) (l m : List By) (most : Int) : Nat := if (m.length : Int) < r' then (min (min (max most 0) l.length) (r' - m.length)).toNat else 0
theorem in_step {D : List By} {x y : By} {j : Nat} (hy : D[j]? = some y) : decide (x ∈ D.take (j + 1)) = (decide (x ∈ D.take j) || decide (x = y)) := by
  rw [List.take_add_one, hy]
  simp
theorem in_all {D : List By} {x : By} {j : Nat} (h : ¬ j < D.length) : x ∈ D.take j ↔ x ∈ D := by rw [List.take_of_length_le (by omega)]
theorem dd_new {l : List By} {i j : Nat} {x : By} (hx : l[i]? = some x) (hj : ¬ (j : Int) < (((dd (l.take i)).map sr).length : Nat)) (h : ¬ x ∈ (dd (l.take i)).take j) : (dd (l.take i)).map sr ++ [[AV.str x]] = (dd (l.take (i + 1))).map sr := by
  rw [in_all (by simp only [map_rows] at hj; omega)] at h
  rw [dd_take hx, if_neg h, List.map_append]; rfl
theorem dd_old {l : List By} {i j : Nat} {x : By} (hx : l[i]? = some x) (h : x ∈ (dd (l.take i)).take j) : (dd (l.take i)).map sr = (dd (l.take (i + 1))).map sr := by
  rw [dd_take hx, if_pos (List.mem_of_mem_take h)]
theorem ronly_good (room : Int) (l : List By) (hl : l.length ≤ 1000000) : Good Try.prog 8 [eQ room l] (.tuple [eQ room (dd l), .int .i64 ((l.length : Int) - (dd l).length)]) := by
  apply good_sh ak8 rfl rfl rfl
  conv => whnf
  refine loop_at (α := Nat) [] (fun i => [(4, .sl .own 1 ((dd (l.take i)).map sr)), (14, .int .i64 (i : Int))]) (fun i => []) (fun i => i ≤ l.length) (fun i => l.length - i) (0) (st_of ?_) ?_ (by rintro i _; rfl) ?_
  · conv => whnf
    refine And.intro (by with_reducible rfl) ?_
    conv => whnf
    refine And.intro (by with_reducible rfl) ?_
    conv => whnf
    refine And.intro (by with_reducible rfl) ?_
    refine And.intro (by with_reducible rfl) ?_
    conv => whnf
    refine And.intro (by with_reducible rfl) ?_
    refine And.intro (by with_reducible rfl) ?_
    conv => whnf
    refine And.intro (by with_reducible rfl) ?_
    conv => whnf
    refine And.intro (by exact rfl) ?_
    conv => whnf
    refine And.intro (by with_reducible rfl) ?_
    refine And.intro (by with_reducible rfl) ?_
    conv => whnf
    refine And.intro (by with_reducible rfl) ?_
    conv => whnf
    refine And.intro (by with_reducible rfl) ?_
    conv => whnf
    refine And.intro (by decide) ?_
    conv => whnf
    refine And.intro (by with_reducible rfl) ?_
    conv => whnf
    refine And.intro (by with_reducible rfl) ?_
    conv => whnf
    refine And.intro (by with_reducible rfl) ?_
    conv => whnf
    refine And.intro (by with_reducible rfl) ?_
    exact True.intro
  · omega
  · rintro i nextl0 hIl0 ihl0
    try dsimp only at hIl0
    conv => whnf
    refine And.intro (fun hc0 => ?_) (fun hc0 => ?_)
    · replace hc0 := of_decide_eq_true hc0
      conv => whnf
      refine And.intro (by omega) ?_
      refine ex_row (l := l) ?_ fun x hx => ?_
      · (simp only [map_rows, maxLen_eq] at *; omega)
      · simp only [toNat_ofNat] at hx
        conv => whnf
        refine loop_at (α := Nat) [] (fun j => [(7, .bool (decide (x ∈ (dd (l.take i)).take j))), (20, .int .i64 (j : Int))]) (fun j => []) (fun j => j ≤ (dd (l.take i)).length) (fun j => (dd (l.take i)).length - j) (0) (st_of ?_) ?_ (by rintro j _; rfl) ?_
        · conv => whnf
          refine And.intro (by with_reducible rfl) ?_
          conv => whnf
          refine And.intro (by with_reducible rfl) ?_
          conv => whnf
          refine And.intro (by with_reducible rfl) ?_
          refine And.intro (by with_reducible rfl) ?_
          conv => whnf
          refine And.intro (by with_reducible rfl) ?_
          refine And.intro (by with_reducible rfl) ?_
          conv => whnf
          refine And.intro (by with_reducible rfl) ?_
          conv => whnf
          refine And.intro (by with_reducible rfl) ?_
          conv => whnf
          refine And.intro (by with_reducible rfl) ?_
          conv => whnf
          refine And.intro (by (simp; done)) ?_
          conv => whnf
          refine And.intro (by with_reducible rfl) ?_
          refine And.intro (by with_reducible rfl) ?_
          conv => whnf
          refine And.intro (by with_reducible rfl) ?_
          conv => whnf
          refine And.intro (by with_reducible rfl) ?_
          conv => whnf
          refine And.intro (by with_reducible rfl) ?_
          conv => whnf
          refine And.intro (by with_reducible rfl) ?_
          conv => whnf
          refine And.intro (by with_reducible rfl) ?_
          conv => whnf
          refine And.intro (by with_reducible rfl) ?_
          conv => whnf
          refine And.intro (by with_reducible rfl) ?_
          conv => whnf
          refine And.intro (by with_reducible rfl) ?_
          conv => whnf
          refine And.intro (by decide) ?_
          conv => whnf
          refine And.intro (by with_reducible rfl) ?_
          conv => whnf
          refine And.intro (by with_reducible rfl) ?_
          conv => whnf
          refine And.intro (by with_reducible rfl) ?_
          conv => whnf
          refine And.intro (by with_reducible rfl) ?_
          exact True.intro
        · omega
        · rintro j nextl1 hIl1 ihl1
          try dsimp only at hIl1
          conv => whnf
          refine And.intro (fun hc2 => ?_) (fun hc2 => ?_)
          · replace hc2 := of_decide_eq_true hc2
            conv => whnf
            refine And.intro (by omega) ?_
            refine ex_row (l := dd (l.take i)) ?_ fun y hy => ?_
            · (simp only [map_rows, maxLen_eq] at *; omega)
            · simp only [toNat_ofNat] at hy
              conv => whnf
              refine And.intro (fun hc4 => ?_) (fun hc4 => ?_)
              · replace hc4 := of_decide_eq_false hc4
                conv => whnf
                refine br_l rfl rfl ?_
                conv => whnf
                refine br_l rfl rfl ?_
                conv => whnf
                refine br_r rfl rfl ?_
                conv => whnf
                refine ihl1 (j + 1) _ ?_ ?_ (st_of ?_)
                · (simp only [map_rows, maxLen_eq] at *; omega)
                · (simp only [map_rows, maxLen_eq] at *; omega)
                · conv => whnf
                  refine And.intro (by with_reducible rfl) ?_
                  conv => whnf
                  refine And.intro (by with_reducible rfl) ?_
                  conv => whnf
                  refine And.intro (by with_reducible rfl) ?_
                  refine And.intro (by with_reducible rfl) ?_
                  conv => whnf
                  refine And.intro (by with_reducible rfl) ?_
                  refine And.intro (by with_reducible rfl) ?_
                  conv => whnf
                  refine And.intro (by with_reducible rfl) ?_
                  conv => whnf
                  refine And.intro (by with_reducible rfl) ?_
                  conv => whnf
                  refine And.intro (by with_reducible rfl) ?_
                  conv => whnf
                  refine And.intro (by (rw [in_step hy, decide_eq_false (p := x ∈ _) (by assumption), Bool.false_or])) ?_
                  conv => whnf
                  refine And.intro (by with_reducible rfl) ?_
                  refine And.intro (by with_reducible rfl) ?_
                  conv => whnf
                  refine And.intro (by with_reducible rfl) ?_
                  conv => whnf
                  refine And.intro (by with_reducible rfl) ?_
                  conv => whnf
                  refine And.intro (by with_reducible rfl) ?_
                  conv => whnf
                  refine And.intro (by with_reducible rfl) ?_
                  conv => whnf
                  refine And.intro (by with_reducible rfl) ?_
                  conv => whnf
                  refine And.intro (by with_reducible rfl) ?_
                  conv => whnf
                  refine And.intro (by with_reducible rfl) ?_
                  conv => whnf
                  refine And.intro (by with_reducible rfl) ?_
                  conv => whnf
                  refine And.intro (by (have := dd_room (i := i) hl; have := lt_at hy; simp only [wrap_i64]; omega)) ?_
                  conv => whnf
                  refine And.intro (by with_reducible rfl) ?_
                  conv => whnf
                  refine And.intro (by with_reducible rfl) ?_
                  conv => whnf
                  refine And.intro (by with_reducible rfl) ?_
                  conv => whnf
                  refine And.intro (by with_reducible rfl) ?_
                  exact True.intro
              · replace hc4 := of_decide_eq_true hc4
                conv => whnf
                refine br_r rfl rfl ?_
                conv => whnf
                refine br_r rfl rfl ?_
                conv => whnf
                refine br_l rfl rfl ?_
                conv => whnf
                refine ihl1 (j + 1) _ ?_ ?_ (st_of ?_)
                · (simp only [map_rows, maxLen_eq] at *; omega)
                · (simp only [map_rows, maxLen_eq] at *; omega)
                · conv => whnf
                  refine And.intro (by with_reducible rfl) ?_
                  conv => whnf
                  refine And.intro (by with_reducible rfl) ?_
                  conv => whnf
                  refine And.intro (by with_reducible rfl) ?_
                  refine And.intro (by with_reducible rfl) ?_
                  conv => whnf
                  refine And.intro (by with_reducible rfl) ?_
                  refine And.intro (by with_reducible rfl) ?_
                  conv => whnf
                  refine And.intro (by with_reducible rfl) ?_
                  conv => whnf
                  refine And.intro (by with_reducible rfl) ?_
                  conv => whnf
                  refine And.intro (by with_reducible rfl) ?_
                  conv => whnf
                  refine And.intro (by (rw [in_step hy, decide_eq_true (by assumption), Bool.true_or])) ?_
                  conv => whnf
                  refine And.intro (by with_reducible rfl) ?_
                  refine And.intro (by with_reducible rfl) ?_
                  conv => whnf
                  refine And.intro (by with_reducible rfl) ?_
                  conv => whnf
                  refine And.intro (by with_reducible rfl) ?_
                  conv => whnf
                  refine And.intro (by with_reducible rfl) ?_
                  conv => whnf
                  refine And.intro (by with_reducible rfl) ?_
                  conv => whnf
                  refine And.intro (by with_reducible rfl) ?_
                  conv => whnf
                  refine And.intro (by with_reducible rfl) ?_
                  conv => whnf
                  refine And.intro (by with_reducible rfl) ?_
                  conv => whnf
                  refine And.intro (by with_reducible rfl) ?_
                  conv => whnf
                  refine And.intro (by (have := dd_room (i := i) hl; have := lt_at hy; simp only [wrap_i64]; omega)) ?_
                  conv => whnf
                  refine And.intro (by with_reducible rfl) ?_
                  conv => whnf
                  refine And.intro (by with_reducible rfl) ?_
                  conv => whnf
                  refine And.intro (by with_reducible rfl) ?_
                  conv => whnf
                  refine And.intro (by with_reducible rfl) ?_
                  exact True.intro
          · replace hc2 := of_decide_eq_false hc2
            conv => whnf
            refine And.intro (fun hc5 => ?_) (fun hc5 => ?_)
            · replace hc5 := of_decide_eq_false (Bool.not_eq_true' _ |>.mp hc5)
              conv => whnf
              refine And.intro (by (simp; done)) ?_
              refine And.intro (by (have := dd_room (i := i) hl; simp only [map_rows, maxLen_eq, List.length_map, List.length_singleton] at *; omega)) ?_
              refine And.intro (by (have := dd_room (i := i) hl; simp only [map_rows, maxLen_eq, List.length_map, List.length_singleton] at *; omega)) ?_
              conv => whnf
              refine ihl0 (i + 1) _ ?_ ?_ (st_of ?_)
              · (simp only [map_rows, maxLen_eq] at *; omega)
              · (simp only [map_rows, maxLen_eq] at *; omega)
              · conv => whnf
                refine And.intro (by with_reducible rfl) ?_
                conv => whnf
                refine And.intro (by with_reducible rfl) ?_
                conv => whnf
                refine And.intro (by with_reducible rfl) ?_
                refine And.intro (by with_reducible rfl) ?_
                conv => whnf
                refine And.intro (by with_reducible rfl) ?_
                refine And.intro (by with_reducible rfl) ?_
                conv => whnf
                refine And.intro (by with_reducible rfl) ?_
                conv => whnf
                refine And.intro (by exact dd_new hx (by assumption) (by assumption)) ?_
                conv => whnf
                refine And.intro (by with_reducible rfl) ?_
                refine And.intro (by with_reducible rfl) ?_
                conv => whnf
                refine And.intro (by with_reducible rfl) ?_
                conv => whnf
                refine And.intro (by with_reducible rfl) ?_
                conv => whnf
                refine And.intro (by (simp only [wrap_i64, wrap_u64, wrap_u32, wrap_u16, wrap_u8, maxLen_eq, mmI] at *; omega)) ?_
                conv => whnf
                refine And.intro (by with_reducible rfl) ?_
                conv => whnf
                refine And.intro (by with_reducible rfl) ?_
                conv => whnf
                refine And.intro (by with_reducible rfl) ?_
                conv => whnf
                refine And.intro (by with_reducible rfl) ?_
                exact True.intro
            · replace hc5 := of_decide_eq_true (Bool.not_eq_false' _ |>.mp hc5)
              conv => whnf
              refine ihl0 (i + 1) _ ?_ ?_ (st_of ?_)
              · (simp only [map_rows, maxLen_eq] at *; omega)
              · (simp only [map_rows, maxLen_eq] at *; omega)
              · conv => whnf
                refine And.intro (by with_reducible rfl) ?_
                conv => whnf
                refine And.intro (by with_reducible rfl) ?_
                conv => whnf
                refine And.intro (by with_reducible rfl) ?_
                refine And.intro (by with_reducible rfl) ?_
                conv => whnf
                refine And.intro (by with_reducible rfl) ?_
                refine And.intro (by with_reducible rfl) ?_
                conv => whnf
                refine And.intro (by with_reducible rfl) ?_
                conv => whnf
                refine And.intro (by exact dd_old hx (by assumption)) ?_
                conv => whnf
                refine And.intro (by with_reducible rfl) ?_
                refine And.intro (by with_reducible rfl) ?_
                conv => whnf
                refine And.intro (by with_reducible rfl) ?_
                conv => whnf
                refine And.intro (by with_reducible rfl) ?_
                conv => whnf
                refine And.intro (by (simp only [wrap_i64, wrap_u64, wrap_u32, wrap_u16, wrap_u8, maxLen_eq, mmI] at *; omega)) ?_
                conv => whnf
                refine And.intro (by with_reducible rfl) ?_
                conv => whnf
                refine And.intro (by with_reducible rfl) ?_
                conv => whnf
                refine And.intro (by with_reducible rfl) ?_
                conv => whnf
                refine And.intro (by with_reducible rfl) ?_
                exact True.intro
    · replace hc0 := of_decide_eq_false hc0
      conv => whnf
      refine AV.of_eqv ?_
      conv => whnf
      refine And.intro (by with_reducible rfl) ?_
      conv => whnf
      refine And.intro (by exact dd_end (by simp only [map_rows] at *; omega)) ?_
      conv => whnf
      refine And.intro (by (rw [dd_end (by simp only [map_rows] at *; omega : ¬ i < l.length)]; have := dd_all hl; simp only [map_rows, wrap_i64] at *; omega)) ?_
      exact True.intro
theorem mv_eq {r' : Int} {l m : List By} {most : Int} (h : ((m.map sr).length : Int) < r') (hr : r' ≤ 9223372036854775807) : mmI false (mmI false (mmI true most 0) ((l.map sr).length : Nat)) (IntKind.i64.wrap (r' - ((m.map sr).length : Nat))) = (mv r' l m most : Int) := by
  simp only [List.length_map] at *
  unfold mv
  rw [if_pos h]
  simp only [wrap_i64, mmI] at *
  omega
theorem mv_le (r' : Int) (l m : List By) (most : Int) : mv r' l m most ≤ l.length := by
  unfold mv
  split <;> omega
theorem mv_no {r' : Int} {l m : List By} {most : Int} (h : ¬ ((m.map sr).length : Int) < r') : mv r' l m most = 0 := by
  simp only [List.length_map] at *
  unfold mv
  rw [if_neg h]
theorem move_good (r r' : Int) (l m : List By) (most : Int) (hr : r' ≤ 9223372036854775807) (hl : l.length ≤ 1000) (hm : m.length ≤ 1000) : Good Try.prog 9 [eQ r l, eQ r' m, .int .i64 most] (.tuple [eQ r (l.drop (mv r' l m most)), eQ r' (m ++ l.take (mv r' l m most)), .int .i64 (mv r' l m most : Nat)]) := by
  have hle := mv_le r' l m most
  apply good_at ak9 rfl rfl rfl
  conv => whnf
  refine And.intro (fun hc0 => ?_) (fun hc0 => ?_)
  · replace hc0 := of_decide_eq_true hc0
    conv => whnf
    refine And.intro (by exact rfl) ?_
    conv => whnf
    refine ⟨_, (cut_good (l.map sr) l _ _ rfl) ?_ ?_, ?_⟩
    · (rw [mv_eq (by assumption) hr]; simp only [map_rows] at *; omega)
    · omega
    · conv => whnf
      refine And.intro (by exact rfl) ?_
      conv => whnf
      refine ⟨_, (cut_good (m.map sr) m _ _ rfl) ?_ ?_, ?_⟩
      · (simp only [map_rows, maxLen_eq] at *; omega)
      · omega
      · conv => whnf
        refine And.intro (by with_reducible rfl) ?_
        refine And.intro (by decide) ?_
        refine And.intro (by (rw [mv_eq (by assumption) hr]; simp only [map_rows] at *; omega)) ?_
        refine And.intro (by (rw [mv_eq (by assumption) hr]; simp only [map_rows] at *; omega)) ?_
        conv => whnf
        refine And.intro (by (rw [mv_eq (by assumption) hr]; simp; done)) ?_
        refine And.intro (by (rw [mv_eq (by assumption) hr]; simp only [map_rows, List.length_drop, List.length_take, maxLen_eq] at *; omega)) ?_
        refine And.intro (by (rw [mv_eq (by assumption) hr]; simp only [map_rows, List.length_drop, List.length_take, maxLen_eq] at *; omega)) ?_
        conv => whnf
        refine And.intro (by exact rfl) ?_
        conv => whnf
        refine AV.of_eqv ?_
        conv => whnf
        refine And.intro (by with_reducible rfl) ?_
        conv => whnf
        refine And.intro (by (rw [mv_eq (by assumption) hr]; simp; done)) ?_
        conv => whnf
        refine And.intro (by with_reducible rfl) ?_
        conv => whnf
        refine And.intro (by (rw [mv_eq (by assumption) hr]; simp; done)) ?_
        conv => whnf
        refine And.intro (by exact mv_eq (by assumption) hr) ?_
        exact True.intro
  · replace hc0 := of_decide_eq_false hc0
    conv => whnf
    refine And.intro (by exact rfl) ?_
    conv => whnf
    refine ⟨_, (cut_good (l.map sr) l _ _ rfl) ?_ ?_, ?_⟩
    · (simp only [map_rows, maxLen_eq] at *; omega)
    · omega
    · conv => whnf
      refine And.intro (by exact rfl) ?_
      conv => whnf
      refine ⟨_, (cut_good (m.map sr) m _ _ rfl) ?_ ?_, ?_⟩
      · (simp only [map_rows, maxLen_eq] at *; omega)
      · omega
      · conv => whnf
        refine And.intro (by with_reducible rfl) ?_
        refine And.intro (by decide) ?_
        refine And.intro (by decide) ?_
        refine And.intro (by omega) ?_
        conv => whnf
        refine And.intro (by (simp; done)) ?_
        refine And.intro (by (simp only [map_rows, List.length_drop, List.length_take, maxLen_eq] at *; omega)) ?_
        refine And.intro (by (simp only [map_rows, List.length_drop, List.length_take, maxLen_eq] at *; omega)) ?_
        conv => whnf
        refine And.intro (by exact rfl) ?_
        conv => whnf
        refine AV.of_eqv ?_
        conv => whnf
        refine And.intro (by with_reducible rfl) ?_
        conv => whnf
        refine And.intro (by (rw [mv_no (by assumption)]; simp; done)) ?_
        conv => whnf
        refine And.intro (by with_reducible rfl) ?_
        conv => whnf
        refine And.intro (by (rw [mv_no (by assumption)]; simp; done)) ?_
        conv => whnf
        refine And.intro (by (rw [mv_no (by assumption)]; simp; done)) ?_
        exact True.intro
/-- behind n of them all is moved -/
theorem mv_is {r' : Int} {l m : List By} {most : Int} {n : Nat} (h1 : n ≤ l.length) (h2 : n = 0 ∨ ((n : Int) ≤ most ∧ (m.length : Int) + n ≤ r')) (h3 : ¬ (n : Int) < most ∨ n = l.length ∨ r' ≤ m.length + n) : mv r' l m most = n := by
  unfold mv
  split <;> omega
abbrev MvI (r' : Int) (l m : List By) (most : Int) (n : Nat) : Prop := n ≤ l.length ∧ (n = 0 ∨ ((n : Int) ≤ most ∧ (m.length : Int) + n ≤ r'))
theorem mvA {r' most : Int} {l m : List By} {n : Nat} (h : MvI r' l m most n) (hc : ¬ (if (l.drop n).length = 0 then (9 : Int) else 0) = 0) : mv r' l m most = n := by
  have : (l.drop n).length = 0 := by
    by_cases h0 : (l.drop n).length = 0
    · exact h0
    · rw [if_neg h0] at hc; exact absurd rfl hc
  rw [List.length_drop] at this
  exact mv_is h.1 h.2 (.inr (.inl (by have := h.1; omega)))
theorem mvB {r' most : Int} {l m : List By} {n : Nat} (h : MvI r' l m most n) (hc : ¬ (if r' ≤ ((m ++ l.take n).length : Nat) then (8 : Int) else 0) = 0) : mv r' l m most = n := by
  have : r' ≤ ((m ++ l.take n).length : Nat) := by
    by_cases h0 : r' ≤ ((m ++ l.take n).length : Nat)
    · exact h0
    · rw [if_neg h0] at hc; exact absurd rfl hc
  rw [List.length_append, List.length_take] at this
  exact mv_is h.1 h.2 (.inr (.inr (by have := h.1; omega)))
theorem mvC {r' most : Int} {l m : List By} {n : Nat} (h : MvI r' l m most n) (hc : ¬ (n : Int) < most) : mv r' l m most = n := mv_is h.1 h.2 (.inl hc)
theorem mvN {r' most : Int} {l m : List By} {n : Nat} (h : MvI r' l m most n) (h0 : (n : Int) < most) (h1 : (if (l.drop n).length = 0 then (9 : Int) else 0) = 0) (h2 : (if r' ≤ ((m ++ l.take n).length : Nat) then (8 : Int) else 0) = 0) : MvI r' l m most (n + 1) ∧ n < l.length ∧ ¬ r' ≤ ((m ++ l.take n).length : Nat) := by
  have h3 : ¬ (l.drop n).length = 0 := fun h => by rw [if_pos h] at h1; exact absurd h1 (by decide)
  have h4 : ¬ r' ≤ ((m ++ l.take n).length : Nat) := fun h => by rw [if_pos h] at h2; exact absurd h2 (by decide)
  have h5 := h4
  rw [List.length_drop] at h3
  rw [List.length_append, List.length_take] at h4
  exact ⟨⟨by omega, .inr ⟨by omega, by omega⟩⟩, by omega, h5⟩
theorem mvD {l : List By} {n : Nat} : ((l.drop n).drop 1).map sr = (l.drop (n + 1)).map sr := by rw [List.drop_drop]
theorem mvT {r' : Int} {l m : List By} {n : Nat} (h : n < l.length) (h4 : ¬ r' ≤ ((m ++ l.take n).length : Nat)) : (if r' ≤ ((m ++ l.take n).length : Nat) then m ++ l.take n else m ++ l.take n ++ [(l.drop n).headD []]) = m ++ l.take (n + 1) := by
  rw [if_neg h4, List.take_add_one, List.getElem?_eq_getElem h, List.drop_eq_getElem_cons h, List.append_assoc]
  rfl
theorem rmove_good (r r' : Int) (l m : List By) (most : Int) (hl : l.length ≤ 1000) (hm : m.length ≤ 1000) : Good Try.prog 10 [eQ r l, eQ r' m, .int .i64 most] (.tuple [eQ r (l.drop (mv r' l m most)), eQ r' (m ++ l.take (mv r' l m most)), .int .i64 (mv r' l m most : Nat)]) := by
  apply good_sh ak10 rfl rfl rfl
  conv => whnf
  refine loop_at (α := Nat) [] (fun n => [(9, .int .i64 (n : Int))]) (fun n => [(0, some ⟨true, 2, [[.int .i64 r, .sl .sh 1 ((l.drop n).map sr)]]⟩), (1, some ⟨true, 2, [[.int .i64 r', .sl .sh 1 ((m ++ l.take n).map sr)]]⟩)]) (fun n => MvI r' l m most n) (fun n => l.length - n) (0) (st_of ?_) ?_ (by rintro n _; rfl) ?_
  · conv => whnf
    refine And.intro (by with_reducible rfl) ?_
    conv => whnf
    refine And.intro (by with_reducible rfl) ?_
    conv => whnf
    refine And.intro (by with_reducible rfl) ?_
    conv => whnf
    refine And.intro (by with_reducible rfl) ?_
    conv => whnf
    refine And.intro (by with_reducible rfl) ?_
    conv => whnf
    refine And.intro (by with_reducible rfl) ?_
    refine And.intro (by with_reducible rfl) ?_
    conv => whnf
    refine And.intro (by with_reducible rfl) ?_
    refine And.intro (by with_reducible rfl) ?_
    conv => whnf
    refine And.intro (by with_reducible rfl) ?_
    refine And.intro (by with_reducible rfl) ?_
    conv => whnf
    refine And.intro (by with_reducible rfl) ?_
    refine And.intro (by with_reducible rfl) ?_
    conv => whnf
    refine And.intro (by with_reducible rfl) ?_
    conv => whnf
    refine And.intro (by decide) ?_
    conv => whnf
    refine And.intro (by with_reducible rfl) ?_
    conv => whnf
    refine And.intro (by (simp; done)) ?_
    conv => whnf
    refine And.intro (by with_reducible rfl) ?_
    conv => whnf
    refine And.intro (by (simp; done)) ?_
    conv => whnf
    refine And.intro (by with_reducible rfl) ?_
    conv => whnf
    refine And.intro (by with_reducible rfl) ?_
    conv => whnf
    refine And.intro (by with_reducible rfl) ?_
    conv => whnf
    refine And.intro (by with_reducible rfl) ?_
    exact True.intro
  · omega
  · rintro n nextl0 hIl0 ihl0
    try dsimp only at hIl0
    conv => whnf
    refine And.intro (fun hc0 => ?_) (fun hc0 => ?_)
    · replace hc0 := of_decide_eq_true hc0
      conv => whnf
      refine ⟨_, (rtake_good _ _) ?_, ?_⟩
      · (simp only [List.length_drop, List.length_append, List.length_take]; omega)
      · conv => whnf
        refine And.intro (fun hc1 => ?_) (fun hc1 => ?_)
        · replace hc1 := of_decide_eq_false (Bool.not_eq_true' _ |>.mp hc1)
          conv => whnf
          refine And.intro (by exact rfl) ?_
          conv => whnf
          refine AV.of_eqv ?_
          conv => whnf
          refine And.intro (by with_reducible rfl) ?_
          conv => whnf
          refine And.intro (by (rw [mvA hIl0 (by assumption)])) ?_
          conv => whnf
          refine And.intro (by with_reducible rfl) ?_
          conv => whnf
          refine And.intro (by (rw [mvA hIl0 (by assumption)])) ?_
          conv => whnf
          refine And.intro (by (rw [mvA hIl0 (by assumption)])) ?_
          exact True.intro
        · replace hc1 := of_decide_eq_true (Bool.not_eq_false' _ |>.mp hc1)
          conv => whnf
          refine ⟨_, (rput_good _ _ _) ?_, ?_⟩
          · (simp only [List.length_drop, List.length_append, List.length_take]; omega)
          · conv => whnf
            refine And.intro (fun hc2 => ?_) (fun hc2 => ?_)
            · replace hc2 := of_decide_eq_false (Bool.not_eq_true' _ |>.mp hc2)
              conv => whnf
              refine And.intro (by exact rfl) ?_
              conv => whnf
              refine AV.of_eqv ?_
              conv => whnf
              refine And.intro (by with_reducible rfl) ?_
              conv => whnf
              refine And.intro (by (rw [mvB hIl0 (by assumption)])) ?_
              conv => whnf
              refine And.intro (by with_reducible rfl) ?_
              conv => whnf
              refine And.intro (by (rw [mvB hIl0 (by assumption)])) ?_
              conv => whnf
              refine And.intro (by (rw [mvB hIl0 (by assumption)])) ?_
              exact True.intro
            · replace hc2 := of_decide_eq_true (Bool.not_eq_false' _ |>.mp hc2)
              conv => whnf
              refine And.intro (by exact rfl) ?_
              conv => whnf
              refine ihl0 (n + 1) _ ?_ ?_ (st_of ?_)
              · exact (mvN hIl0 (by assumption) (by assumption) (by assumption)).1
              · (have := (mvN hIl0 (by assumption) (by assumption) (by assumption)).2.1; (try simp only [wrap_i64]); omega)
              · conv => whnf
                refine And.intro (by with_reducible rfl) ?_
                conv => whnf
                refine And.intro (by with_reducible rfl) ?_
                conv => whnf
                refine And.intro (by with_reducible rfl) ?_
                conv => whnf
                refine And.intro (by with_reducible rfl) ?_
                conv => whnf
                refine And.intro (by with_reducible rfl) ?_
                conv => whnf
                refine And.intro (by with_reducible rfl) ?_
                refine And.intro (by with_reducible rfl) ?_
                conv => whnf
                refine And.intro (by with_reducible rfl) ?_
                refine And.intro (by with_reducible rfl) ?_
                conv => whnf
                refine And.intro (by with_reducible rfl) ?_
                refine And.intro (by with_reducible rfl) ?_
                conv => whnf
                refine And.intro (by with_reducible rfl) ?_
                refine And.intro (by with_reducible rfl) ?_
                conv => whnf
                refine And.intro (by with_reducible rfl) ?_
                conv => whnf
                refine And.intro (by (have := (mvN hIl0 (by assumption) (by assumption) (by assumption)).2.1; (try simp only [wrap_i64]); omega)) ?_
                conv => whnf
                refine And.intro (by with_reducible rfl) ?_
                conv => whnf
                refine And.intro (by exact mvD) ?_
                conv => whnf
                refine And.intro (by with_reducible rfl) ?_
                conv => whnf
                refine And.intro (by (rw [mvT (mvN hIl0 (by assumption) (by assumption) (by assumption)).2.1 (mvN hIl0 (by assumption) (by assumption) (by assumption)).2.2])) ?_
                conv => whnf
                refine And.intro (by with_reducible rfl) ?_
                conv => whnf
                refine And.intro (by with_reducible rfl) ?_
                conv => whnf
                refine And.intro (by with_reducible rfl) ?_
                conv => whnf
                refine And.intro (by with_reducible rfl) ?_
                exact True.intro
    · replace hc0 := of_decide_eq_false hc0
      conv => whnf
      refine And.intro (by exact rfl) ?_
      conv => whnf
      refine AV.of_eqv ?_
      conv => whnf
      refine And.intro (by with_reducible rfl) ?_
      conv => whnf
      refine And.intro (by (rw [mvC hIl0 (by assumption)])) ?_
      conv => whnf
      refine And.intro (by with_reducible rfl) ?_
      conv => whnf
      refine And.intro (by (rw [mvC hIl0 (by assumption)])) ?_
      conv => whnf
      refine And.intro (by (rw [mvC hIl0 (by assumption)])) ?_
      exact True.intro
end Go.Proofs.Ytgdkpiabahpleaa

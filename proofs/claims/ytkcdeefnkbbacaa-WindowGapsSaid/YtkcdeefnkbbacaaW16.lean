/- Windows: the contracts of what Take stands on. -/
import Derived.Test.YtkcdeefnkbbacaaW16c
import Derived.Test.YtkcdeefnkbbacaaW09
import Derived.Test.YtkcdeefnkbbacaaW08
set_option maxRecDepth 100000
set_option linter.unusedSimpArgs false
set_option linter.unusedVariables false
namespace Go.Proofs.Ytkcdeefnkbbacaa
open Go.RowKit
set_option maxHeartbeats 4000000
def pn (n : Int) : List AV := [.int .i64 1, .int .u32 0, .int .u32 0, .int .u32 0, .int .u32 0, .int .i64 n, .bool false, .sl .sh 4 []]
abbrev ePn (n : Int) : AV := .agg [.int .i64 1, .int .u32 0, .int .u32 0, .int .u32 0, .int .u32 0, .int .i64 n, .bool false, .sl .sh 4 []]
abbrev eW (n : Int) (l : List Int) : AV := .agg [.int .i64 n, .sl .sh 8 (l.map pn)]
abbrev Qt := Int × Int × Int × Int × Int × Int × Bool × List It
def qt (x : Qt) : List AV := [.int .i64 x.1, .int .u32 x.2.1, .int .u32 x.2.2.1, .int .u32 x.2.2.2.1, .int .u32 x.2.2.2.2.1, .int .i64 x.2.2.2.2.2.1, .bool x.2.2.2.2.2.2.1, .sl .sh 4 (x.2.2.2.2.2.2.2.map it)]
abbrev qs (x : Qt) : Int := x.2.2.2.2.2.1
abbrev eV (n : Int) (l : List Qt) : AV := .agg [.int .i64 n, .sl .sh 8 (l.map qt)]
theorem numbered_good (n : Int) : Good Try.prog 60 [.int .i64 n] (ePn n) := by
  apply good_at ak60 rfl rfl rfl
  conv => whnf
  refine AV.of_eqv ?_
  conv => whnf
  refine And.intro (by with_reducible rfl) ?_
  conv => whnf
  refine And.intro (by with_reducible rfl) ?_
  conv => whnf
  refine And.intro (by with_reducible rfl) ?_
  conv => whnf
  refine And.intro (by with_reducible rfl) ?_
  conv => whnf
  refine And.intro (by with_reducible rfl) ?_
  conv => whnf
  refine And.intro (by with_reducible rfl) ?_
  conv => whnf
  refine And.intro (by with_reducible rfl) ?_
  conv => whnf
  refine And.intro (by with_reducible rfl) ?_
  exact True.intro
theorem new16_good : Good Try.prog 59 [] (.agg [.int .i64 0, .sl .sh 8 []]) := by
  apply good_at ak59 rfl rfl rfl
  conv => whnf
  refine AV.of_eqv ?_
  conv => whnf
  refine And.intro (by with_reducible rfl) ?_
  conv => whnf
  refine And.intro (by with_reducible rfl) ?_
  exact True.intro
theorem sright_good (n : Int) : Good Try.prog 118 [.int .i64 n] (.bool (decide (0 ≤ n ∧ n ≤ 65535))) := by
  apply good_at ak118 rfl rfl rfl
  conv => whnf
  refine And.intro (fun hc0 => ?_) (fun hc0 => ?_)
  · replace hc0 := of_decide_eq_true hc0
    conv => whnf
    refine br_l rfl rfl ?_
    conv => whnf
    refine br_l rfl rfl ?_
    conv => whnf
    refine AV.of_eqv ?_
    conv => whnf
    refine And.intro (by exact decide_eq_decide.2 (by omega)) ?_
    exact True.intro
  · replace hc0 := of_decide_eq_false hc0
    conv => whnf
    refine br_r rfl rfl ?_
    conv => whnf
    refine br_r rfl rfl ?_
    conv => whnf
    refine AV.of_eqv ?_
    conv => whnf
    refine And.intro (by exact (decide_eq_false (by omega)).symm) ?_
    exact True.intro
theorem rsright_good (n : Int) : Good Try.prog 129 [.int .i64 n] (.bool (decide (0 ≤ n ∧ n ≤ 65535))) := by
  apply good_at ak129 rfl rfl rfl
  conv => whnf
  refine And.intro (fun hc0 => ?_) (fun hc0 => ?_)
  · replace hc0 := of_decide_eq_true hc0
    conv => whnf
    refine br_l rfl rfl ?_
    conv => whnf
    refine br_l rfl rfl ?_
    conv => whnf
    refine AV.of_eqv ?_
    conv => whnf
    refine And.intro (by exact decide_eq_decide.2 (by omega)) ?_
    exact True.intro
  · replace hc0 := of_decide_eq_false hc0
    conv => whnf
    refine br_r rfl rfl ?_
    conv => whnf
    refine br_r rfl rfl ?_
    conv => whnf
    refine AV.of_eqv ?_
    conv => whnf
    refine And.intro (by exact (decide_eq_false (by omega)).symm) ?_
    exact True.intro
def aheadI (n o : Int) : Int := if 0 ≤ n ∧ n ≤ 65535 ∧ 0 ≤ o ∧ o ≤ 65535 ∧ o ≤ n then n - o else -1
theorem ahead_good (n o : Int) : Good Try.prog 124 [.int .i64 n, .int .i64 o] (.int .i64 (aheadI n o)) := by
  apply good_at ak124 rfl rfl rfl
  conv => whnf
  refine ⟨_, sright_good _, ?_⟩
  conv => whnf
  refine And.intro (fun hc0 => ?_) (fun hc0 => ?_)
  · replace hc0 := of_decide_eq_true (Bool.not_eq_false' _ |>.mp hc0)
    conv => whnf
    refine br_l rfl rfl ?_
    conv => whnf
    refine ⟨_, sright_good _, ?_⟩
    conv => whnf
    refine br_l rfl rfl ?_
    conv => whnf
    refine br_r rfl rfl ?_
    conv => whnf
    refine And.intro (fun hc1 => ?_) (fun hc1 => ?_)
    · replace hc1 := of_decide_eq_true (Bool.not_eq_false' _ |>.mp hc1)
      conv => whnf
      refine br_l rfl rfl ?_
      conv => whnf
      refine br_l rfl rfl ?_
      conv => whnf
      refine br_r rfl rfl ?_
      conv => whnf
      refine And.intro (fun hc2 => ?_) (fun hc2 => ?_)
      · replace hc2 := of_decide_eq_true hc2
        conv => whnf
        refine AV.of_eqv ?_
        conv => whnf
        refine And.intro (by (unfold aheadI; rw [if_neg (by omega)])) ?_
        exact True.intro
      · replace hc2 := of_decide_eq_false hc2
        conv => whnf
        refine AV.of_eqv ?_
        conv => whnf
        refine And.intro (by (unfold aheadI; rw [if_pos (by omega), wrap_i64]; omega)) ?_
        exact True.intro
    · replace hc1 := of_decide_eq_false (Bool.not_eq_true' _ |>.mp hc1)
      conv => whnf
      refine br_r rfl rfl ?_
      conv => whnf
      refine br_r rfl rfl ?_
      conv => whnf
      refine br_l rfl rfl ?_
      conv => whnf
      refine br_l rfl rfl ?_
      conv => whnf
      refine AV.of_eqv ?_
      conv => whnf
      refine And.intro (by (unfold aheadI; rw [if_neg (by omega)])) ?_
      exact True.intro
  · replace hc0 := of_decide_eq_false (Bool.not_eq_true' _ |>.mp hc0)
    conv => whnf
    refine br_r rfl rfl ?_
    conv => whnf
    refine br_r rfl rfl ?_
    conv => whnf
    refine br_l rfl rfl ?_
    conv => whnf
    refine br_r rfl rfl ?_
    conv => whnf
    refine br_r rfl rfl ?_
    conv => whnf
    refine br_r rfl rfl ?_
    conv => whnf
    refine br_l rfl rfl ?_
    conv => whnf
    refine br_l rfl rfl ?_
    conv => whnf
    refine AV.of_eqv ?_
    conv => whnf
    refine And.intro (by (unfold aheadI; rw [if_neg (by omega)])) ?_
    exact True.intro
theorem snear_good (n o : Int) : Good Try.prog 119 [.int .i64 n, .int .i64 o] (.bool (decide (0 ≤ n ∧ n ≤ 65535 ∧ 0 ≤ o ∧ o ≤ 65535 ∧ o ≤ n ∧ n < o + 8))) := by
  have ha := ahead_good n o
  by_cases h : 0 ≤ n ∧ n ≤ 65535 ∧ 0 ≤ o ∧ o ≤ 65535 ∧ o ≤ n
  · rw [show aheadI n o = n - o from if_pos h] at ha
    apply good_at ak119 rfl rfl rfl
    conv => whnf
    refine ⟨_, ha, ?_⟩
    conv => whnf
    refine And.intro (fun hc0 => ?_) (fun hc0 => ?_)
    · replace hc0 := of_decide_eq_true hc0
      conv => whnf
      refine br_l rfl rfl ?_
      conv => whnf
      refine br_l rfl rfl ?_
      conv => whnf
      refine AV.of_eqv ?_
      conv => whnf
      refine And.intro (by exact decide_eq_decide.2 (by omega)) ?_
      exact True.intro
    · replace hc0 := of_decide_eq_false hc0
      (exfalso; omega)
  · rw [show aheadI n o = -1 from if_neg h] at ha
    apply good_at ak119 rfl rfl rfl
    conv => whnf
    refine ⟨_, ha, ?_⟩
    conv => whnf
    refine br_r rfl rfl ?_
    conv => whnf
    refine br_r rfl rfl ?_
    conv => whnf
    refine br_r rfl rfl ?_
    conv => whnf
    refine AV.of_eqv ?_
    conv => whnf
    refine And.intro (by exact (decide_eq_false (by omega)).symm) ?_
    exact True.intro
theorem seqs_good (n : Int) (l : List Qt) (hl : l.length ≤ 1000000) : Good Try.prog 121 [eV n l] (.sl .own 1 (l.map fun x => i1 (qs x))) := by
  apply good_at ak121 rfl rfl rfl
  conv => whnf
  refine loop_at (α := Nat) [] (fun i => [(9, .int .i64 (i : Int)), (3, .sl .own 1 ((l.take i).map fun x => i1 (qs x)))]) (fun i => []) (fun i => i ≤ l.length) (fun i => l.length - i) (0) (st_of ?_) ?_ (by rintro i _; rfl) ?_
  · conv => whnf
    refine And.intro (by with_reducible rfl) ?_
    conv => whnf
    refine And.intro (by with_reducible rfl) ?_
    conv => whnf
    refine And.intro (by with_reducible rfl) ?_
    refine And.intro (by with_reducible rfl) ?_
    conv => whnf
    refine And.intro (by with_reducible rfl) ?_
    conv => whnf
    refine And.intro (by (simp; done)) ?_
    conv => whnf
    refine And.intro (by with_reducible rfl) ?_
    refine And.intro (by with_reducible rfl) ?_
    conv => whnf
    refine And.intro (by with_reducible rfl) ?_
    conv => whnf
    refine And.intro (by with_reducible rfl) ?_
    conv => whnf
    refine And.intro (by decide) ?_
    conv => whnf
    refine And.intro (by with_reducible rfl) ?_
    conv => whnf
    refine And.intro (by with_reducible rfl) ?_
    exact True.intro
  · omega
  · rintro i nextl0 hIl0 ihl0
    try dsimp only at hIl0
    conv => whnf
    refine And.intro (fun hc0 => ?_) (fun hc0 => ?_)
    · replace hc0 := of_decide_eq_true hc0
      conv => whnf
      refine And.intro (by omega) ?_
      refine ex_row (l := l) ?_ fun x hx => ?_
      · (simp only [map_rows, maxLen_eq, List.length_map, List.length_take, List.length_cons, List.length_nil] at *; omega)
      · simp only [toNat_ofNat] at hx
        conv => whnf
        refine And.intro (by (simp; done)) ?_
        refine And.intro (by (simp only [map_rows, maxLen_eq, List.length_map, List.length_take, List.length_cons, List.length_nil] at *; omega)) ?_
        refine And.intro (by (simp only [map_rows, maxLen_eq, List.length_map, List.length_take, List.length_cons, List.length_nil] at *; omega)) ?_
        conv => whnf
        refine ihl0 (i + 1) _ ?_ ?_ (st_of ?_)
        · (simp only [map_rows, maxLen_eq, List.length_map, List.length_take, List.length_cons, List.length_nil] at *; omega)
        · (simp only [map_rows, maxLen_eq, List.length_map, List.length_take, List.length_cons, List.length_nil] at *; omega)
        · conv => whnf
          refine And.intro (by with_reducible rfl) ?_
          conv => whnf
          refine And.intro (by with_reducible rfl) ?_
          conv => whnf
          refine And.intro (by with_reducible rfl) ?_
          refine And.intro (by with_reducible rfl) ?_
          conv => whnf
          refine And.intro (by with_reducible rfl) ?_
          conv => whnf
          refine And.intro (by (rw [map_at _ hx]; rfl)) ?_
          conv => whnf
          refine And.intro (by with_reducible rfl) ?_
          refine And.intro (by with_reducible rfl) ?_
          conv => whnf
          refine And.intro (by with_reducible rfl) ?_
          conv => whnf
          refine And.intro (by with_reducible rfl) ?_
          conv => whnf
          refine And.intro (by (simp only [wrap_i64, wrap_u64, wrap_u32, wrap_u16, wrap_u8, maxLen_eq, mmI] at *; omega)) ?_
          conv => whnf
          refine And.intro (by with_reducible rfl) ?_
          conv => whnf
          refine And.intro (by with_reducible rfl) ?_
          exact True.intro
    · replace hc0 := of_decide_eq_false hc0
      conv => whnf
      refine AV.of_eqv ?_
      conv => whnf
      refine And.intro (by (rw [take_end (by simp only [map_rows] at *; omega)])) ?_
      exact True.intro
def toQ (n : Int) : Qt := (1, 0, 0, 0, 0, n, false, [])
theorem map_toQ (l : List Int) : (l.map toQ).map qt = l.map pn := by rw [List.map_map]; rfl
theorem seqs_pn (n : Int) (l : List Int) (hl : l.length ≤ 1000000) : Good Try.prog 121 [eW n l] (.sl .own 1 (l.map i1)) := by
  have h := seqs_good n (l.map toQ) (by rw [List.length_map]; exact hl)
  rw [show eV n (l.map toQ) = eW n l from by unfold eV eW; rw [map_toQ]] at h
  exact h.eq (by rw [List.map_map]; rfl)
def idx : List Int → Int → Nat → Int
  | [], _, _ => -1
  | y :: r, x, i => if x = y then (i : Int) else idx r x (i + 1)
theorem idx_mem : ∀ (l : List Int) (x : Int) (i : Nat), (0 ≤ idx l x i ↔ x ∈ l)
  | [], x, i => by simp [idx]
  | y :: r, x, i => by
    unfold idx
    by_cases h : x = y
    · rw [if_pos h]; simp [h]
    · rw [if_neg h, idx_mem r x (i + 1)]; simp [h]
theorem idx_hit {l : List Int} {x y : Int} {i : Nat} (hx : l[i]? = some y) (h : idx (l.drop i) x i = idx l x 0) (he : x = y) : (i : Int) = idx l x 0 := by
  rw [drop_at hx, idx, if_pos he] at h; exact h
theorem idx_step {l : List Int} {x y : Int} {i : Nat} (hx : l[i]? = some y) (h : idx (l.drop i) x i = idx l x 0) (he : ¬ x = y) : idx (l.drop (i + 1)) x (i + 1) = idx l x 0 := by
  rw [drop_at hx] at h; rw [idx, if_neg he] at h; exact h
theorem idx_end {l : List Int} {x : Int} {i : Nat} (hi : ¬ i < l.length) (h : idx (l.drop i) x i = idx l x 0) : -1 = idx l x 0 := by
  rw [List.drop_of_length_le (by omega)] at h; exact h
theorem indexI_good (l : List Int) (x : Int) (hl : l.length ≤ 1000000) : Good Try.prog 135 [.sl .sh 1 (l.map i1), .int .i64 x] (.int .i64 (idx l x 0)) := by
  apply good_at ak135 rfl rfl rfl
  conv => whnf
  refine loop_at (α := Nat) [] (fun i => [(8, .int .i64 (i : Int))]) (fun i => []) (fun i => i ≤ l.length ∧ idx (l.drop i) x i = idx l x 0) (fun i => l.length - i) (0) (st_of ?_) ?_ (by rintro i _; rfl) ?_
  · conv => whnf
    refine And.intro (by with_reducible rfl) ?_
    conv => whnf
    refine And.intro (by with_reducible rfl) ?_
    conv => whnf
    refine And.intro (by with_reducible rfl) ?_
    conv => whnf
    refine And.intro (by with_reducible rfl) ?_
    conv => whnf
    refine And.intro (by decide) ?_
    exact True.intro
  · (exact ⟨by omega, rfl⟩)
  · rintro i nextl0 hIl0 ihl0
    try dsimp only at hIl0
    conv => whnf
    refine And.intro (fun hc0 => ?_) (fun hc0 => ?_)
    · replace hc0 := of_decide_eq_true hc0
      conv => whnf
      refine And.intro (by omega) ?_
      refine ex_row (l := l) ?_ fun y hy => ?_
      · (simp only [map_rows] at *; omega)
      · simp only [toNat_ofNat] at hy
        conv => whnf
        refine And.intro (fun hc2 => ?_) (fun hc2 => ?_)
        · replace hc2 := of_decide_eq_true hc2
          conv => whnf
          refine AV.of_eqv ?_
          conv => whnf
          refine And.intro (by (exact idx_hit hy hIl0.2 (by assumption))) ?_
          exact True.intro
        · replace hc2 := of_decide_eq_false hc2
          conv => whnf
          refine ihl0 (i + 1) _ ?_ ?_ (st_of ?_)
          · (have := lt_at hy; exact ⟨by omega, idx_step hy hIl0.2 (by assumption)⟩)
          · (simp only [map_rows] at *; omega)
          · conv => whnf
            refine And.intro (by with_reducible rfl) ?_
            conv => whnf
            refine And.intro (by with_reducible rfl) ?_
            conv => whnf
            refine And.intro (by with_reducible rfl) ?_
            conv => whnf
            refine And.intro (by with_reducible rfl) ?_
            conv => whnf
            refine And.intro (by (simp only [wrap_i64, wrap_u64, wrap_u32, wrap_u16, wrap_u8, maxLen_eq, mmI] at *; omega)) ?_
            exact True.intro
    · replace hc0 := of_decide_eq_false hc0
      conv => whnf
      refine AV.of_eqv ?_
      conv => whnf
      refine And.intro (by (exact idx_end (by simp only [map_rows] at *; omega) hIl0.2)) ?_
      exact True.intro
theorem containsI_good (l : List Int) (x : Int) (hl : l.length ≤ 1000000) : Good Try.prog 120 [.sl .sh 1 (l.map i1), .int .i64 x] (.bool (decide (x ∈ l))) := by
  apply good_at ak120 rfl rfl rfl
  conv => whnf
  refine ⟨_, (indexI_good l x) ?_, ?_⟩
  · assumption
  · conv => whnf
    refine AV.of_eqv ?_
    conv => whnf
    refine And.intro (by (exact decide_eq_decide.2 (idx_mem l x 0))) ?_
    exact True.intro
/-- the place of the first that is above p -/
def plc : List Int → Int → Nat
  | [], _ => 0
  | x :: r, p => if p < x then 0 else plc r p + 1
def putI (l : List Int) (p : Int) : List Int := l.take (plc l p) ++ p :: l.drop (plc l p)
theorem plc_hit : ∀ {l : List Int} {p : Int} {i : Nat} {x : Int}, (∀ y ∈ l.take i, y ≤ p) → l[i]? = some x → p < x → plc l p = i
  | [], _, _, _, _, h, _ => by cases h
  | y :: r, p, 0, x, _, h, hp => by cases h; exact if_pos hp
  | y :: r, p, i + 1, x, ha, h, hp => by
    have h1 : y ≤ p := ha y (by simp)
    have h2 := plc_hit (l := r) (p := p) (i := i) (x := x) (fun z hz => ha z (by simp [hz])) h hp
    unfold plc
    rw [if_neg (by omega), h2]
theorem plc_end : ∀ {l : List Int} {p : Int}, (∀ y ∈ l, y ≤ p) → plc l p = l.length
  | [], _, _ => rfl
  | y :: r, p, ha => by
    have h1 : y ≤ p := ha y (by simp)
    unfold plc
    rw [if_neg (by omega), plc_end (fun z hz => ha z (by simp [hz]))]; rfl
theorem le_step {l : List Int} {p x : Int} {i : Nat} (h : ∀ y ∈ l.take i, y ≤ p) (hx : l[i]? = some x) (hp : ¬ p < x) : ∀ y ∈ l.take (i + 1), y ≤ p := by
  intro y hy
  rw [take_at hx] at hy
  rcases List.mem_append.1 hy with hy | hy
  · exact h y hy
  · obtain rfl := List.mem_singleton.1 hy; omega
theorem put_at {l : List Int} {p : Int} {i : Nat} (h : plc l p = i) : (l.map pn).take i ++ [pn p] ++ (l.map pn).drop i = (putI l p).map pn := by
  unfold putI
  rw [h, List.map_append, List.map_cons, List.map_take, List.map_drop, List.append_assoc]; rfl
theorem put_end {l : List Int} {p : Int} {i : Nat} (h : ∀ y ∈ l.take i, y ≤ p) (hi : ¬ i < l.length) : plc l p = l.length := by
  rw [take_end hi] at h; exact plc_end h
theorem put_fin {l : List Int} {p : Int} {i : Nat} (h : plc l p = i) : [] ++ List.drop (Int.toNat 0) (List.take (i : Int).toNat (l.map pn)) ++ [pn p] ++ List.drop (i : Int).toNat (List.take ((l.map pn).length : Int).toNat (l.map pn)) = (putI l p).map pn := by
  rw [Int.toNat_natCast, Int.toNat_natCast, List.take_length, List.nil_append]
  exact put_at h
theorem own_good (n : Int) : Good Try.prog 123 [ePn n] (ePn n) := by
  apply good_at ak123 rfl rfl rfl
  conv => whnf
  refine And.intro (by decide) ?_
  refine And.intro (by decide) ?_
  refine And.intro (by decide) ?_
  conv => whnf
  refine AV.of_eqv ?_
  conv => whnf
  refine And.intro (by with_reducible rfl) ?_
  conv => whnf
  refine And.intro (by with_reducible rfl) ?_
  conv => whnf
  refine And.intro (by with_reducible rfl) ?_
  conv => whnf
  refine And.intro (by with_reducible rfl) ?_
  conv => whnf
  refine And.intro (by with_reducible rfl) ?_
  conv => whnf
  refine And.intro (by with_reducible rfl) ?_
  conv => whnf
  refine And.intro (by with_reducible rfl) ?_
  conv => whnf
  refine And.intro (by decide) ?_
  exact True.intro
theorem put_good (l : List Int) (p : Int) (hl : l.length ≤ 1000000) : Good Try.prog 122 [.sl .sh 8 (l.map pn), ePn p] (.sl .own 8 ((putI l p).map pn)) := by
  apply good_at ak122 rfl rfl rfl
  conv => whnf
  refine loop_at (α := Nat) [] (fun i => [(13, .int .i64 (i : Int))]) (fun i => []) (fun i => i ≤ l.length ∧ ∀ y ∈ l.take i, y ≤ p) (fun i => l.length - i) (0) (st_of ?_) ?_ (by rintro i _; rfl) ?_
  · conv => whnf
    refine And.intro (by with_reducible rfl) ?_
    conv => whnf
    refine And.intro (by with_reducible rfl) ?_
    conv => whnf
    refine And.intro (by with_reducible rfl) ?_
    conv => whnf
    refine And.intro (by with_reducible rfl) ?_
    conv => whnf
    refine And.intro (by with_reducible rfl) ?_
    conv => whnf
    refine And.intro (by with_reducible rfl) ?_
    conv => whnf
    refine And.intro (by with_reducible rfl) ?_
    conv => whnf
    refine And.intro (by with_reducible rfl) ?_
    conv => whnf
    refine And.intro (by with_reducible rfl) ?_
    conv => whnf
    refine And.intro (by with_reducible rfl) ?_
    refine And.intro (by with_reducible rfl) ?_
    conv => whnf
    refine And.intro (by with_reducible rfl) ?_
    conv => whnf
    refine And.intro (by with_reducible rfl) ?_
    conv => whnf
    refine And.intro (by with_reducible rfl) ?_
    conv => whnf
    refine And.intro (by with_reducible rfl) ?_
    conv => whnf
    refine And.intro (by with_reducible rfl) ?_
    conv => whnf
    refine And.intro (by with_reducible rfl) ?_
    conv => whnf
    refine And.intro (by decide) ?_
    conv => whnf
    refine And.intro (by with_reducible rfl) ?_
    conv => whnf
    refine And.intro (by with_reducible rfl) ?_
    conv => whnf
    refine And.intro (by with_reducible rfl) ?_
    conv => whnf
    refine And.intro (by with_reducible rfl) ?_
    conv => whnf
    refine And.intro (by with_reducible rfl) ?_
    conv => whnf
    refine And.intro (by with_reducible rfl) ?_
    conv => whnf
    refine And.intro (by with_reducible rfl) ?_
    conv => whnf
    refine And.intro (by with_reducible rfl) ?_
    exact True.intro
  · (exact ⟨by omega, fun _ h => by cases h⟩)
  · rintro i nextl0 hIl0 ihl0
    try dsimp only at hIl0
    conv => whnf
    refine And.intro (fun hc0 => ?_) (fun hc0 => ?_)
    · replace hc0 := of_decide_eq_true hc0
      conv => whnf
      refine And.intro (by omega) ?_
      refine ex_row (l := l) ?_ fun x hx => ?_
      · (simp only [map_rows, maxLen_eq, List.length_take, List.length_append, List.length_cons, List.length_nil, List.length_drop] at *; omega)
      · simp only [toNat_ofNat] at hx
        conv => whnf
        refine And.intro (fun hc2 => ?_) (fun hc2 => ?_)
        · replace hc2 := of_decide_eq_true hc2
          conv => whnf
          refine And.intro (by decide) ?_
          refine And.intro (by omega) ?_
          refine And.intro (by omega) ?_
          conv => whnf
          refine And.intro (by (simp; done)) ?_
          refine And.intro (by (simp only [map_rows, maxLen_eq, List.length_take, List.length_append, List.length_cons, List.length_nil, List.length_drop] at *; omega)) ?_
          refine And.intro (by (simp only [map_rows, maxLen_eq, List.length_take, List.length_append, List.length_cons, List.length_nil, List.length_drop] at *; omega)) ?_
          conv => whnf
          refine And.intro (by (simp; done)) ?_
          refine And.intro (by (simp only [map_rows, maxLen_eq, List.length_take, List.length_append, List.length_cons, List.length_nil, List.length_drop] at *; omega)) ?_
          refine And.intro (by (simp only [map_rows, maxLen_eq, List.length_take, List.length_append, List.length_cons, List.length_nil, List.length_drop] at *; omega)) ?_
          conv => whnf
          refine And.intro (by omega) ?_
          refine And.intro (by omega) ?_
          refine And.intro (by omega) ?_
          conv => whnf
          refine And.intro (by (simp; done)) ?_
          refine And.intro (by (simp only [map_rows, maxLen_eq, List.length_take, List.length_append, List.length_cons, List.length_nil, List.length_drop] at *; omega)) ?_
          refine And.intro (by (simp only [map_rows, maxLen_eq, List.length_take, List.length_append, List.length_cons, List.length_nil, List.length_drop] at *; omega)) ?_
          conv => whnf
          refine AV.of_eqv ?_
          conv => whnf
          refine And.intro (by (exact put_fin (plc_hit hIl0.2 hx (by assumption)))) ?_
          exact True.intro
        · replace hc2 := of_decide_eq_false hc2
          conv => whnf
          refine ihl0 (i + 1) _ ?_ ?_ (st_of ?_)
          · (have := lt_at hx; exact ⟨by omega, le_step hIl0.2 hx (by assumption)⟩)
          · (simp only [map_rows, maxLen_eq, List.length_take, List.length_append, List.length_cons, List.length_nil, List.length_drop] at *; omega)
          · conv => whnf
            refine And.intro (by with_reducible rfl) ?_
            conv => whnf
            refine And.intro (by with_reducible rfl) ?_
            conv => whnf
            refine And.intro (by with_reducible rfl) ?_
            conv => whnf
            refine And.intro (by with_reducible rfl) ?_
            conv => whnf
            refine And.intro (by with_reducible rfl) ?_
            conv => whnf
            refine And.intro (by with_reducible rfl) ?_
            conv => whnf
            refine And.intro (by with_reducible rfl) ?_
            conv => whnf
            refine And.intro (by with_reducible rfl) ?_
            conv => whnf
            refine And.intro (by with_reducible rfl) ?_
            conv => whnf
            refine And.intro (by with_reducible rfl) ?_
            refine And.intro (by with_reducible rfl) ?_
            conv => whnf
            refine And.intro (by with_reducible rfl) ?_
            conv => whnf
            refine And.intro (by with_reducible rfl) ?_
            conv => whnf
            refine And.intro (by with_reducible rfl) ?_
            conv => whnf
            refine And.intro (by with_reducible rfl) ?_
            conv => whnf
            refine And.intro (by with_reducible rfl) ?_
            conv => whnf
            refine And.intro (by with_reducible rfl) ?_
            conv => whnf
            refine And.intro (by (simp only [wrap_i64, wrap_u64, wrap_u32, wrap_u16, wrap_u8, maxLen_eq, mmI] at *; omega)) ?_
            conv => whnf
            refine And.intro (by with_reducible rfl) ?_
            conv => whnf
            refine And.intro (by with_reducible rfl) ?_
            conv => whnf
            refine And.intro (by with_reducible rfl) ?_
            conv => whnf
            refine And.intro (by with_reducible rfl) ?_
            conv => whnf
            refine And.intro (by with_reducible rfl) ?_
            conv => whnf
            refine And.intro (by with_reducible rfl) ?_
            conv => whnf
            refine And.intro (by with_reducible rfl) ?_
            conv => whnf
            refine And.intro (by with_reducible rfl) ?_
            exact True.intro
    · replace hc0 := of_decide_eq_false hc0
      conv => whnf
      refine And.intro (by decide) ?_
      refine And.intro (by omega) ?_
      refine And.intro (by omega) ?_
      conv => whnf
      refine And.intro (by (simp; done)) ?_
      refine And.intro (by (simp only [map_rows, maxLen_eq, List.length_take, List.length_append, List.length_cons, List.length_nil, List.length_drop] at *; omega)) ?_
      refine And.intro (by (simp only [map_rows, maxLen_eq, List.length_take, List.length_append, List.length_cons, List.length_nil, List.length_drop] at *; omega)) ?_
      conv => whnf
      refine And.intro (by (simp; done)) ?_
      refine And.intro (by (simp only [map_rows, maxLen_eq, List.length_take, List.length_append, List.length_cons, List.length_nil, List.length_drop] at *; omega)) ?_
      refine And.intro (by (simp only [map_rows, maxLen_eq, List.length_take, List.length_append, List.length_cons, List.length_nil, List.length_drop] at *; omega)) ?_
      conv => whnf
      refine And.intro (by omega) ?_
      refine And.intro (by omega) ?_
      refine And.intro (by omega) ?_
      conv => whnf
      refine And.intro (by (simp; done)) ?_
      refine And.intro (by (simp only [map_rows, maxLen_eq, List.length_take, List.length_append, List.length_cons, List.length_nil, List.length_drop] at *; omega)) ?_
      refine And.intro (by (simp only [map_rows, maxLen_eq, List.length_take, List.length_append, List.length_cons, List.length_nil, List.length_drop] at *; omega)) ?_
      conv => whnf
      refine AV.of_eqv ?_
      conv => whnf
      refine And.intro (by (exact put_fin (by rw [put_end hIl0.2 (by simp only [map_rows] at *; omega), List.length_map]))) ?_
      exact True.intro
theorem all_nil2 : (all []).2 = 0 ∧ (all []).1.length ≤ 40 := by decide
theorem prn_good (p : Int) : Good Try.prog 32 [ePn p] (.bool (decide (0 ≤ p ∧ p ≤ 65535))) :=
  (tright_good 1 0 0 0 0 p false [] (by simp) (by simp)).eq (by rw [AV.bool.injEq]; exact decide_eq_decide.2 ⟨fun h => ⟨h.2.2.2.1, h.2.2.2.2⟩, fun h => ⟨all_nil2, by omega, by omega, h.1, h.2⟩⟩)
end Go.Proofs.Ytkcdeefnkbbacaa

/- Parcels: a text cut, and joined. -/
import Derived.Test.YtkcdeefnkbbacaaW10b
set_option maxRecDepth 100000
set_option linter.unusedSimpArgs false
set_option linter.unusedVariables false
namespace Go.Proofs.Ytkcdeefnkbbacaa
open Go.RowKit
set_option maxHeartbeats 4000000
def pr (x : Pk) : List AV := [.int .i64 x.1, .int .u32 x.2.1, .int .u32 x.2.2.1, .int .u32 x.2.2.2.1, .int .u32 x.2.2.2.2.1, .int .i64 x.2.2.2.2.2.1, .int .i64 x.2.2.2.2.2.2.1, .int .i64 x.2.2.2.2.2.2.2.1, .str x.2.2.2.2.2.2.2.2]
def mkP (f a b c d s t x : Int) (B : By) : Pk := (f, a, b, c, d, s, t, x, B)
def cuts : Nat → By → List By
  | 0, _ => []
  | n + 1, s => if s = [] then [] else s.take 64 :: cuts n (s.drop 64)
theorem cuts_nil (n : Nat) : cuts n [] = [] := by cases n <;> rfl
theorem cuts_cons {n : Nat} {s : By} (h : 0 < s.length) : cuts (n + 1) s = s.take 64 :: cuts n (s.drop 64) := if_neg (fun e => by subst e; simp at h)
theorem cuts_len : ∀ (n : Nat) (s : By), (cuts n s).length ≤ n
  | 0, _ => Nat.le_refl _
  | n + 1, s => by
    unfold cuts
    split
    · simp
    · have := cuts_len n (s.drop 64)
      simp only [List.length_cons]; omega
theorem cuts_mem : ∀ (n : Nat) (s b : By), b ∈ cuts n s → 0 < b.length ∧ b.length ≤ 64
  | 0, _, _, h => by cases h
  | n + 1, s, b, h => by
    unfold cuts at h
    split at h
    · cases h
    · rename_i hs
      rcases List.mem_cons.1 h with rfl | h
      · have : 0 < s.length := List.length_pos_iff.2 hs
        rw [List.length_take]; omega
      · exact cuts_mem n _ _ h
theorem cuts_join : ∀ (n : Nat) (s : By), (cuts n s).flatMap id = s.take (64 * n)
  | 0, s => by simp [cuts]
  | n + 1, s => by
    unfold cuts
    split
    · rename_i h; subst h; simp
    · rw [List.flatMap_cons, cuts_join n, show 64 * (n + 1) = 64 + 64 * n by omega, List.take_add]; rfl
theorem cut_step {r z : By} {out : List By} (h : out ++ cuts (64 - out.length) r = cuts 64 z) (hr : 0 < r.length) (ho : out.length < 64) : (out ++ [r.take 64]) ++ cuts (64 - (out ++ [r.take 64]).length) (r.drop 64) = cuts 64 z := by
  rw [show 64 - out.length = (64 - (out.length + 1)) + 1 by omega, cuts_cons hr] at h
  rw [List.length_append, List.append_assoc]
  exact h
theorem cut_end {r z : By} {out : List By} (h : out ++ cuts (64 - out.length) r = cuts 64 z) (hr : ¬ (0 < r.length ∧ out.length < 64)) : out = cuts 64 z := by
  by_cases h0 : 0 < r.length
  · rw [show 64 - out.length = 0 by omega] at h
    simpa [cuts] using h
  · obtain rfl : r = [] := List.eq_nil_of_length_eq_zero (by omega)
    rw [cuts_nil, List.append_nil] at h
    exact h
theorem mm64 (r : By) : (mmI false ((r.length : Nat) : Int) 64).toNat = min r.length 64 := by simp only [mmI]; omega
theorem tk64 (r : By) : r.take (mmI false ((r.length : Nat) : Int) 64).toNat = r.take 64 := by
  rw [mm64, List.take_eq_take_iff]; omega
theorem dr64 (r : By) : List.drop (mmI false ((r.length : Nat) : Int) 64).toNat (List.take ((r.length : Nat) : Int).toNat r) = r.drop 64 := by
  rw [mm64, Int.toNat_natCast, List.take_length]
  by_cases h : 64 ≤ r.length
  · rw [Nat.min_eq_right h]
  · rw [Nat.min_eq_left (by omega), List.drop_of_length_le (Nat.le_refl _), List.drop_of_length_le (by omega)]
theorem cut_row {f a b c d s t x : Int} {r : By} {out : List By} : (out.map (mkP f a b c d s t x)).map pr ++ [[.int .i64 f, .int .u32 a, .int .u32 b, .int .u32 c, .int .u32 d, .int .i64 s, .int .i64 t, .int .i64 x, .str (List.drop (Int.toNat 0) (List.take (mmI false ((r.length : Nat) : Int) 64).toNat r))]] = ((out ++ [r.take 64]).map (mkP f a b c d s t x)).map pr := by
  have e : List.drop (Int.toNat 0) (List.take (mmI false ((r.length : Nat) : Int) 64).toNat r) = r.take 64 := tk64 r
  rw [e, List.map_append, List.map_append]; rfl
theorem cut_good (f a b c d s t x : Int) (B z : By) : Good Try.prog 50 [eQ f a b c d s t x B, .str z] (.sl .own 9 (((cuts 64 z).map (mkP f a b c d s t x)).map pr)) := by
  apply good_at ak50 rfl rfl rfl
  conv => whnf
  refine loop_at (α := By × List By × By) [] (fun ⟨r, out, body⟩ => [(1, .str r), (5, .sl .own 9 ((out.map (mkP f a b c d s t x)).map pr))]) (fun ⟨r, out, body⟩ => [(0, some ⟨true, 9, [[.int .i64 f, .int .u32 a, .int .u32 b, .int .u32 c, .int .u32 d, .int .i64 s, .int .i64 t, .int .i64 x, .str body]]⟩)]) (fun ⟨r, out, body⟩ => out.length ≤ 64 ∧ out ++ cuts (64 - out.length) r = cuts 64 z) (fun ⟨r, out, body⟩ => 64 - out.length) ((z, [], B)) (st_of ?_) ?_ (by rintro ⟨r, out, body⟩ _; rfl) ?_
  · conv => whnf
    refine And.intro (by with_reducible rfl) ?_
    conv => whnf
    refine And.intro (by with_reducible rfl) ?_
    conv => whnf
    refine And.intro (by with_reducible rfl) ?_
    conv => whnf
    refine And.intro (by with_reducible rfl) ?_
    conv => whnf
    refine And.intro (by with_reducible rfl) ?_
    conv => whnf
    refine And.intro (by with_reducible rfl) ?_
    conv => whnf
    refine And.intro (by with_reducible rfl) ?_
    conv => whnf
    refine And.intro (by with_reducible rfl) ?_
    conv => whnf
    refine And.intro (by with_reducible rfl) ?_
    conv => whnf
    refine And.intro (by with_reducible rfl) ?_
    conv => whnf
    refine And.intro (by with_reducible rfl) ?_
    refine And.intro (by with_reducible rfl) ?_
    conv => whnf
    refine And.intro (by with_reducible rfl) ?_
    conv => whnf
    refine And.intro (by (simp; done)) ?_
    conv => whnf
    refine And.intro (by with_reducible rfl) ?_
    conv => whnf
    refine And.intro (by with_reducible rfl) ?_
    conv => whnf
    refine And.intro (by with_reducible rfl) ?_
    conv => whnf
    refine And.intro (by with_reducible rfl) ?_
    conv => whnf
    refine And.intro (by with_reducible rfl) ?_
    conv => whnf
    refine And.intro (by with_reducible rfl) ?_
    conv => whnf
    refine And.intro (by with_reducible rfl) ?_
    conv => whnf
    refine And.intro (by with_reducible rfl) ?_
    conv => whnf
    refine And.intro (by with_reducible rfl) ?_
    exact True.intro
  · dsimp only
    (simp; done)
  · rintro ⟨r, out, body⟩ nextl0 hIl0 ihl0
    try dsimp only at hIl0
    conv => whnf
    refine And.intro (fun hc0 => ?_) (fun hc0 => ?_)
    · replace hc0 := of_decide_eq_true hc0
      conv => whnf
      refine br_l rfl rfl ?_
      conv => whnf
      refine br_l rfl rfl ?_
      conv => whnf
      refine br_l rfl rfl ?_
      conv => whnf
      refine And.intro (fun hc1 => ?_) (fun hc1 => ?_)
      · replace hc1 := of_decide_eq_true hc1
        conv => whnf
        refine And.intro (by exact rfl) ?_
        conv => whnf
        refine And.intro (by decide) ?_
        refine And.intro (by (simp only [List.length_map, List.length_cons, List.length_nil, maxLen_eq, List.length_append, mmI] at *; omega)) ?_
        refine And.intro (by (simp only [List.length_map, List.length_cons, List.length_nil, maxLen_eq, List.length_append, mmI] at *; omega)) ?_
        conv => whnf
        refine And.intro (by (simp only [List.length_map, List.length_cons, List.length_nil, maxLen_eq, List.length_append, mmI] at *; omega)) ?_
        refine And.intro (by (simp only [List.length_map, List.length_cons, List.length_nil, maxLen_eq, List.length_append, mmI] at *; omega)) ?_
        refine And.intro (by omega) ?_
        conv => whnf
        refine And.intro (by (simp; done)) ?_
        refine And.intro (by (simp only [List.length_map, List.length_cons, List.length_nil, maxLen_eq, List.length_append, mmI] at *; omega)) ?_
        refine And.intro (by (simp only [List.length_map, List.length_cons, List.length_nil, maxLen_eq, List.length_append, mmI] at *; omega)) ?_
        conv => whnf
        refine ihl0 ((r.drop 64, out ++ [r.take 64], r.take 64)) _ ?_ ?_ (st_of ?_)
        · dsimp only
          (exact ⟨by simp only [List.length_map, List.length_append, List.length_cons, List.length_nil] at *; omega, cut_step hIl0.2 (by omega) (by simp only [List.length_map] at *; omega)⟩)
        · dsimp only
          (simp only [List.length_map, List.length_cons, List.length_nil, maxLen_eq, List.length_append, mmI] at *; omega)
        · conv => whnf
          refine And.intro (by with_reducible rfl) ?_
          conv => whnf
          refine And.intro (by with_reducible rfl) ?_
          conv => whnf
          refine And.intro (by with_reducible rfl) ?_
          conv => whnf
          refine And.intro (by with_reducible rfl) ?_
          conv => whnf
          refine And.intro (by with_reducible rfl) ?_
          conv => whnf
          refine And.intro (by with_reducible rfl) ?_
          conv => whnf
          refine And.intro (by with_reducible rfl) ?_
          conv => whnf
          refine And.intro (by with_reducible rfl) ?_
          conv => whnf
          refine And.intro (by with_reducible rfl) ?_
          conv => whnf
          refine And.intro (by (exact dr64 r)) ?_
          conv => whnf
          refine And.intro (by with_reducible rfl) ?_
          refine And.intro (by with_reducible rfl) ?_
          conv => whnf
          refine And.intro (by with_reducible rfl) ?_
          conv => whnf
          refine And.intro (by (exact cut_row)) ?_
          conv => whnf
          refine And.intro (by with_reducible rfl) ?_
          conv => whnf
          refine And.intro (by with_reducible rfl) ?_
          conv => whnf
          refine And.intro (by with_reducible rfl) ?_
          conv => whnf
          refine And.intro (by with_reducible rfl) ?_
          conv => whnf
          refine And.intro (by with_reducible rfl) ?_
          conv => whnf
          refine And.intro (by with_reducible rfl) ?_
          conv => whnf
          refine And.intro (by with_reducible rfl) ?_
          conv => whnf
          refine And.intro (by with_reducible rfl) ?_
          conv => whnf
          refine And.intro (by (exact tk64 r)) ?_
          exact True.intro
      · replace hc1 := of_decide_eq_false hc1
        conv => whnf
        refine AV.of_eqv ?_
        conv => whnf
        refine And.intro (by (rw [cut_end hIl0.2 (by simp only [List.length_map] at *; omega)])) ?_
        exact True.intro
    · replace hc0 := of_decide_eq_false hc0
      conv => whnf
      refine br_r rfl rfl ?_
      conv => whnf
      refine br_r rfl rfl ?_
      conv => whnf
      refine br_r rfl rfl ?_
      conv => whnf
      refine br_r rfl rfl ?_
      conv => whnf
      refine AV.of_eqv ?_
      conv => whnf
      refine And.intro (by (rw [cut_end hIl0.2 (by simp only [List.length_map] at *; omega)])) ?_
      exact True.intro
def jn (l : List Pk) (src : Int) : By := (l.filter fun p => decide (p.2.2.2.2.2.1 = src)).flatMap fun p => p.2.2.2.2.2.2.2.2
theorem jn_snoc_y {l : List Pk} {x : Pk} {src : Int} (h : x.2.2.2.2.2.1 = src) : jn (l ++ [x]) src = jn l src ++ x.2.2.2.2.2.2.2.2 := by
  unfold jn
  rw [List.filter_append, List.flatMap_append]
  simp [h]
theorem jn_snoc_n {l : List Pk} {x : Pk} {src : Int} (h : ¬ x.2.2.2.2.2.1 = src) : jn (l ++ [x]) src = jn l src := by
  unfold jn
  rw [List.filter_append, List.flatMap_append]
  simp [h]
def j64 (l : List Pk) (i : Nat) (src : Int) : By := jn ((l.take i).take 64) src
theorem j64_y {l : List Pk} {i : Nat} {x : Pk} {src : Int} (hx : l[i]? = some x) (h : x.2.2.2.2.2.1 = src) (hi : i < 64) : j64 l i src ++ x.2.2.2.2.2.2.2.2 = j64 l (i + 1) src := by
  unfold j64
  rw [take_at hx, List.take_of_length_le (l := l.take i ++ [x]) (by simp; omega), List.take_of_length_le (by simp; omega), jn_snoc_y h]
theorem j64_n {l : List Pk} {i : Nat} {x : Pk} {src : Int} (hx : l[i]? = some x) (h : ¬ (x.2.2.2.2.2.1 = src ∧ i < 64)) : j64 l i src = j64 l (i + 1) src := by
  unfold j64
  have hlt := lt_at hx
  by_cases hi : i < 64
  · rw [take_at hx, List.take_of_length_le (l := l.take i ++ [x]) (by simp; omega), List.take_of_length_le (by simp; omega), jn_snoc_n (fun e => h ⟨e, hi⟩)]
  · rw [List.take_take, List.take_take, Nat.min_eq_left (by omega), Nat.min_eq_left (by omega)]
theorem j64_len {l : List Pk} {src : Int} (hb : ∀ x ∈ l, x.2.2.2.2.2.2.2.2.length ≤ 500) : ∀ i : Nat, (j64 l i src).length ≤ 500 * i
  | 0 => by simp [j64, jn]
  | i + 1 => by
    have ih := j64_len hb (src := src) i
    by_cases hi : i < l.length
    · have hx : l[i]? = some l[i] := List.getElem?_eq_getElem hi
      have hm := hb _ (List.mem_of_getElem? hx)
      by_cases h : l[i].2.2.2.2.2.1 = src ∧ i < 64
      · rw [← j64_y hx h.1 h.2, List.length_append]; omega
      · rw [← j64_n hx h]; omega
    · have e : j64 l (i + 1) src = j64 l i src := by
        unfold j64
        rw [(List.take_of_length_le (show l.length ≤ i + 1 by omega)).trans (List.take_of_length_le (show l.length ≤ i by omega)).symm]
      rw [e]; omega
theorem rjoin_good (l : List Pk) (src : Int) (hl : l.length ≤ 1000) (hb : ∀ x ∈ l, x.2.2.2.2.2.2.2.2.length ≤ 500) : Good Try.prog 53 [.sl .sh 9 (l.map pr), .int .i64 src] (.str (jn (l.take 64) src)) := by
  have e0 : ∀ i, ¬ i < l.length → j64 l i src = jn (l.take 64) src := fun i h => by unfold j64; rw [take_end h]
  apply good_at ak53 rfl rfl rfl
  conv => whnf
  refine loop_at (α := Nat) [] (fun i => [(10, .int .i64 (i : Int)), (5, .str (j64 l i src))]) (fun i => []) (fun i => i ≤ l.length) (fun i => l.length - i) (0) (st_of ?_) ?_ (by rintro i _; rfl) ?_
  · conv => whnf
    refine And.intro (by with_reducible rfl) ?_
    conv => whnf
    refine And.intro (by with_reducible rfl) ?_
    conv => whnf
    refine And.intro (by with_reducible rfl) ?_
    conv => whnf
    refine And.intro (by exact rfl) ?_
    conv => whnf
    refine And.intro (by with_reducible rfl) ?_
    conv => whnf
    refine And.intro (by with_reducible rfl) ?_
    conv => whnf
    refine And.intro (by decide) ?_
    exact True.intro
  · omega
  · rintro i nextl0 hIl0 ihl0
    try dsimp only at hIl0
    conv => whnf
    refine And.intro (fun hc0 => ?_) (fun hc0 => ?_)
    · replace hc0 := of_decide_eq_true hc0
      conv => whnf
      refine And.intro (by omega) ?_
      refine ex_row (l := l) ?_ fun y hy => ?_
      · (simp only [map_rows] at *; omega)
      · simp only [toNat_ofNat] at hy
        conv => whnf
        refine And.intro (fun hc2 => ?_) (fun hc2 => ?_)
        · replace hc2 := of_decide_eq_true hc2
          conv => whnf
          refine br_l rfl rfl ?_
          conv => whnf
          refine br_l rfl rfl ?_
          conv => whnf
          refine And.intro (fun hc3 => ?_) (fun hc3 => ?_)
          · replace hc3 := of_decide_eq_true hc3
            conv => whnf
            refine And.intro (by (have h1 := j64_len hb (src := src) i; have h2 := hb _ (List.mem_of_getElem? hy); simp only [map_rows, maxLen_eq, List.length_append] at *; omega)) ?_
            conv => whnf
            refine ihl0 (i + 1) _ ?_ ?_ (st_of ?_)
            · (simp only [map_rows] at *; omega)
            · (simp only [map_rows] at *; omega)
            · conv => whnf
              refine And.intro (by with_reducible rfl) ?_
              conv => whnf
              refine And.intro (by with_reducible rfl) ?_
              conv => whnf
              refine And.intro (by with_reducible rfl) ?_
              conv => whnf
              refine And.intro (by (exact j64_y hy (by assumption) (by omega))) ?_
              conv => whnf
              refine And.intro (by with_reducible rfl) ?_
              conv => whnf
              refine And.intro (by with_reducible rfl) ?_
              conv => whnf
              refine And.intro (by (simp only [wrap_i64, wrap_u64, wrap_u32, wrap_u16, wrap_u8, maxLen_eq, mmI] at *; omega)) ?_
              exact True.intro
          · replace hc3 := of_decide_eq_false hc3
            conv => whnf
            refine ihl0 (i + 1) _ ?_ ?_ (st_of ?_)
            · (simp only [map_rows] at *; omega)
            · (simp only [map_rows] at *; omega)
            · conv => whnf
              refine And.intro (by with_reducible rfl) ?_
              conv => whnf
              refine And.intro (by with_reducible rfl) ?_
              conv => whnf
              refine And.intro (by with_reducible rfl) ?_
              conv => whnf
              refine And.intro (by (exact j64_n hy (fun e => by first | exact absurd e.1 (by assumption) | omega))) ?_
              conv => whnf
              refine And.intro (by with_reducible rfl) ?_
              conv => whnf
              refine And.intro (by with_reducible rfl) ?_
              conv => whnf
              refine And.intro (by (simp only [wrap_i64, wrap_u64, wrap_u32, wrap_u16, wrap_u8, maxLen_eq, mmI] at *; omega)) ?_
              exact True.intro
        · replace hc2 := of_decide_eq_false hc2
          conv => whnf
          refine br_r rfl rfl ?_
          conv => whnf
          refine br_r rfl rfl ?_
          conv => whnf
          refine br_r rfl rfl ?_
          conv => whnf
          refine ihl0 (i + 1) _ ?_ ?_ (st_of ?_)
          · (simp only [map_rows] at *; omega)
          · (simp only [map_rows] at *; omega)
          · conv => whnf
            refine And.intro (by with_reducible rfl) ?_
            conv => whnf
            refine And.intro (by with_reducible rfl) ?_
            conv => whnf
            refine And.intro (by with_reducible rfl) ?_
            conv => whnf
            refine And.intro (by (exact j64_n hy (fun e => by first | exact absurd e.1 (by assumption) | omega))) ?_
            conv => whnf
            refine And.intro (by with_reducible rfl) ?_
            conv => whnf
            refine And.intro (by with_reducible rfl) ?_
            conv => whnf
            refine And.intro (by (simp only [wrap_i64, wrap_u64, wrap_u32, wrap_u16, wrap_u8, maxLen_eq, mmI] at *; omega)) ?_
            exact True.intro
    · replace hc0 := of_decide_eq_false hc0
      conv => whnf
      refine AV.of_eqv ?_
      conv => whnf
      refine And.intro (by (exact e0 _ (by simp only [map_rows] at *; omega))) ?_
      exact True.intro
end Go.Proofs.Ytkcdeefnkbbacaa

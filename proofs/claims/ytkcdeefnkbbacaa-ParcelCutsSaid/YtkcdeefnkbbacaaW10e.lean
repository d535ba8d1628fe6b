/- The law ParcelCuts. -/
import Derived.Test.YtkcdeefnkbbacaaJoin
set_option maxRecDepth 100000
set_option linter.unusedSimpArgs false
set_option linter.unusedVariables false
namespace Go.Proofs.Ytkcdeefnkbbacaa
open Go.RowKit
set_option maxHeartbeats 4000000
theorem cut_row2 {f a b c d s t x : Int} {v r : By} {out : List By} (e : v = r) : (out.map (mkP f a b c d s t x)).map pr ++ [[.int .i64 f, .int .u32 a, .int .u32 b, .int .u32 c, .int .u32 d, .int .i64 s, .int .i64 t, .int .i64 x, .str v]] = ((out ++ [r]).map (mkP f a b c d s t x)).map pr := by
  rw [e, List.map_append, List.map_append]; rfl
theorem sub_w {z : By} {k : Nat} (hz : z.length ≤ 1000000) (hk : k ≤ z.length) (h : 64 < IntKind.i64.wrap ((z.length : Int) - (k : Int))) : List.drop ((k : Int)).toNat (List.take (IntKind.i64.wrap ((k : Int) + 64)).toNat z) = (z.drop k).take 64 := by
  have e : (IntKind.i64.wrap ((k : Int) + 64)).toNat = k + 64 := by rw [wrap_i64]; omega
  rw [e, Int.toNat_natCast, List.take_drop]
theorem sub_e {z : By} {k : Nat} (hz : z.length ≤ 1000000) (hk : k ≤ z.length) (h : ¬ 64 < IntKind.i64.wrap ((z.length : Int) - (k : Int))) : List.drop ((k : Int)).toNat (List.take ((z.length : Int)).toNat z) = (z.drop k).take 64 := by
  rw [wrap_i64] at h
  rw [Int.toNat_natCast, Int.toNat_natCast, List.take_length, List.take_of_length_le (by rw [List.length_drop]; omega)]
theorem rc_step {z : By} {k : Nat} {out : List By} (h : k ≤ z.length ∧ out.length ≤ 64 ∧ out ++ cuts (64 - out.length) (z.drop k) = cuts 64 z) (hk : (k : Int) < (z.length : Int)) (ho : out.length < 64) :
    min (k + 64) z.length ≤ z.length ∧ (out ++ [(z.drop k).take 64]).length ≤ 64 ∧ (out ++ [(z.drop k).take 64]) ++ cuts (64 - (out ++ [(z.drop k).take 64]).length) (z.drop (min (k + 64) z.length)) = cuts 64 z := by
  refine ⟨Nat.min_le_right _ _, by rw [List.length_append, List.length_singleton]; omega, ?_⟩
  have e : z.drop (min (k + 64) z.length) = (z.drop k).drop 64 := by
    rw [List.drop_drop]
    by_cases h : k + 64 ≤ z.length
    · rw [Nat.min_eq_left h]
    · rw [Nat.min_eq_right (by omega), List.drop_length, List.drop_of_length_le (by omega)]
  rw [e]
  exact cut_step h.2.2 (by rw [List.length_drop]; omega) ho
theorem rc_end {z : By} {k : Nat} {out : List By} (h : k ≤ z.length ∧ out.length ≤ 64 ∧ out ++ cuts (64 - out.length) (z.drop k) = cuts 64 z) (hr : ¬ (k < z.length ∧ out.length < 64)) : out = cuts 64 z :=
  cut_end h.2.2 (by rw [List.length_drop]; omega)
theorem rcut_good (f a b c d s t x : Int) (B z : By) (hz : z.length ≤ 1000000) : Good Try.prog 51 [eQ f a b c d s t x B, .str z] (.sl .own 9 (((cuts 64 z).map (mkP f a b c d s t x)).map pr)) := by
  apply good_at ak51 rfl rfl rfl
  conv => whnf
  refine loop_at (α := Nat × List By × By) [] (fun ⟨k, out, body⟩ => [(6, .int .i64 (k : Int)), (5, .sl .own 9 ((out.map (mkP f a b c d s t x)).map pr))]) (fun ⟨k, out, body⟩ => [(0, some ⟨true, 9, [[.int .i64 f, .int .u32 a, .int .u32 b, .int .u32 c, .int .u32 d, .int .i64 s, .int .i64 t, .int .i64 x, .str body]]⟩)]) (fun ⟨k, out, body⟩ => k ≤ z.length ∧ out.length ≤ 64 ∧ out ++ cuts (64 - out.length) (z.drop k) = cuts 64 z) (fun ⟨k, out, body⟩ => 64 - out.length) ((0, [], B)) (st_of ?_) ?_ (by rintro ⟨k, out, body⟩ _; rfl) ?_
  · conv => whnf
    refine And.intro (by with_reducible rfl) ?_
    conv => whnf
    refine And.intro (by with_reducible rfl) ?_
    conv => whnf
    refine And.intro (by with_reducible rfl) ?_
    conv => whnf
    refine And.intro (by with_reducible rfl) ?_
    conv => whnf
    refine And.intro (by with_reducible rfl) ?_
    conv => whnf
    refine And.intro (by with_reducible rfl) ?_
    conv => whnf
    refine And.intro (by with_reducible rfl) ?_
    conv => whnf
    refine And.intro (by with_reducible rfl) ?_
    conv => whnf
    refine And.intro (by with_reducible rfl) ?_
    conv => whnf
    refine And.intro (by with_reducible rfl) ?_
    conv => whnf
    refine And.intro (by with_reducible rfl) ?_
    refine And.intro (by with_reducible rfl) ?_
    conv => whnf
    refine And.intro (by with_reducible rfl) ?_
    conv => whnf
    refine And.intro (by (simp; done)) ?_
    conv => whnf
    refine And.intro (by decide) ?_
    conv => whnf
    refine And.intro (by with_reducible rfl) ?_
    conv => whnf
    refine And.intro (by with_reducible rfl) ?_
    conv => whnf
    refine And.intro (by with_reducible rfl) ?_
    conv => whnf
    refine And.intro (by with_reducible rfl) ?_
    conv => whnf
    refine And.intro (by with_reducible rfl) ?_
    conv => whnf
    refine And.intro (by with_reducible rfl) ?_
    conv => whnf
    refine And.intro (by with_reducible rfl) ?_
    conv => whnf
    refine And.intro (by with_reducible rfl) ?_
    conv => whnf
    refine And.intro (by with_reducible rfl) ?_
    exact True.intro
  · dsimp only
    (simp; done)
  · rintro ⟨k, out, body⟩ nextl0 hIl0 ihl0
    try dsimp only at hIl0
    conv => whnf
    refine And.intro (fun hc0 => ?_) (fun hc0 => ?_)
    · replace hc0 := of_decide_eq_true hc0
      conv => whnf
      refine br_l rfl rfl ?_
      conv => whnf
      refine br_l rfl rfl ?_
      conv => whnf
      refine br_l rfl rfl ?_
      conv => whnf
      refine And.intro (fun hc1 => ?_) (fun hc1 => ?_)
      · replace hc1 := of_decide_eq_true hc1
        conv => whnf
        refine And.intro (fun hc2 => ?_) (fun hc2 => ?_)
        · replace hc2 := of_decide_eq_true hc2
          conv => whnf
          refine And.intro (by omega) ?_
          refine And.intro (by (simp only [List.length_map, List.length_cons, List.length_nil, maxLen_eq, List.length_append, wrap_i64] at *; omega)) ?_
          refine And.intro (by (simp only [List.length_map, List.length_cons, List.length_nil, maxLen_eq, List.length_append, wrap_i64] at *; omega)) ?_
          conv => whnf
          refine And.intro (by (simp; done)) ?_
          refine And.intro (by (simp only [List.length_map, List.length_cons, List.length_nil, maxLen_eq, List.length_append, wrap_i64] at *; omega)) ?_
          refine And.intro (by (simp only [List.length_map, List.length_cons, List.length_nil, maxLen_eq, List.length_append, wrap_i64] at *; omega)) ?_
          conv => whnf
          refine ihl0 ((min (k + 64) z.length, out ++ [(z.drop k).take 64], (z.drop k).take 64)) _ ?_ ?_ (st_of ?_)
          · dsimp only
            (exact rc_step hIl0 (by assumption) (by simp only [List.length_map] at *; omega))
          · dsimp only
            (simp only [List.length_map, List.length_cons, List.length_nil, maxLen_eq, List.length_append, wrap_i64] at *; omega)
          · conv => whnf
            refine And.intro (by with_reducible rfl) ?_
            conv => whnf
            refine And.intro (by with_reducible rfl) ?_
            conv => whnf
            refine And.intro (by with_reducible rfl) ?_
            conv => whnf
            refine And.intro (by with_reducible rfl) ?_
            conv => whnf
            refine And.intro (by with_reducible rfl) ?_
            conv => whnf
            refine And.intro (by with_reducible rfl) ?_
            conv => whnf
            refine And.intro (by with_reducible rfl) ?_
            conv => whnf
            refine And.intro (by with_reducible rfl) ?_
            conv => whnf
            refine And.intro (by with_reducible rfl) ?_
            conv => whnf
            refine And.intro (by with_reducible rfl) ?_
            conv => whnf
            refine And.intro (by with_reducible rfl) ?_
            refine And.intro (by with_reducible rfl) ?_
            conv => whnf
            refine And.intro (by with_reducible rfl) ?_
            conv => whnf
            refine And.intro (by (exact cut_row2 (sub_w hz hIl0.1 (by assumption)))) ?_
            conv => whnf
            refine And.intro (by (simp only [List.length_map, List.length_cons, List.length_nil, maxLen_eq, List.length_append, wrap_i64] at *; omega)) ?_
            conv => whnf
            refine And.intro (by with_reducible rfl) ?_
            conv => whnf
            refine And.intro (by with_reducible rfl) ?_
            conv => whnf
            refine And.intro (by with_reducible rfl) ?_
            conv => whnf
            refine And.intro (by with_reducible rfl) ?_
            conv => whnf
            refine And.intro (by with_reducible rfl) ?_
            conv => whnf
            refine And.intro (by with_reducible rfl) ?_
            conv => whnf
            refine And.intro (by with_reducible rfl) ?_
            conv => whnf
            refine And.intro (by with_reducible rfl) ?_
            conv => whnf
            refine And.intro (by (exact sub_w hz hIl0.1 (by assumption))) ?_
            exact True.intro
        · replace hc2 := of_decide_eq_false hc2
          conv => whnf
          refine And.intro (by omega) ?_
          refine And.intro (by omega) ?_
          refine And.intro (by omega) ?_
          conv => whnf
          refine And.intro (by (simp; done)) ?_
          refine And.intro (by (simp only [List.length_map, List.length_cons, List.length_nil, maxLen_eq, List.length_append, wrap_i64] at *; omega)) ?_
          refine And.intro (by (simp only [List.length_map, List.length_cons, List.length_nil, maxLen_eq, List.length_append, wrap_i64] at *; omega)) ?_
          conv => whnf
          refine ihl0 ((min (k + 64) z.length, out ++ [(z.drop k).take 64], (z.drop k).take 64)) _ ?_ ?_ (st_of ?_)
          · dsimp only
            (exact rc_step hIl0 (by assumption) (by simp only [List.length_map] at *; omega))
          · dsimp only
            (simp only [List.length_map, List.length_cons, List.length_nil, maxLen_eq, List.length_append, wrap_i64] at *; omega)
          · conv => whnf
            refine And.intro (by with_reducible rfl) ?_
            conv => whnf
            refine And.intro (by with_reducible rfl) ?_
            conv => whnf
            refine And.intro (by with_reducible rfl) ?_
            conv => whnf
            refine And.intro (by with_reducible rfl) ?_
            conv => whnf
            refine And.intro (by with_reducible rfl) ?_
            conv => whnf
            refine And.intro (by with_reducible rfl) ?_
            conv => whnf
            refine And.intro (by with_reducible rfl) ?_
            conv => whnf
            refine And.intro (by with_reducible rfl) ?_
            conv => whnf
            refine And.intro (by with_reducible rfl) ?_
            conv => whnf
            refine And.intro (by with_reducible rfl) ?_
            conv => whnf
            refine And.intro (by with_reducible rfl) ?_
            refine And.intro (by with_reducible rfl) ?_
            conv => whnf
            refine And.intro (by with_reducible rfl) ?_
            conv => whnf
            refine And.intro (by (exact cut_row2 (sub_e hz hIl0.1 (by assumption)))) ?_
            conv => whnf
            refine And.intro (by (simp only [List.length_map, List.length_cons, List.length_nil, maxLen_eq, List.length_append, wrap_i64] at *; omega)) ?_
            conv => whnf
            refine And.intro (by with_reducible rfl) ?_
            conv => whnf
            refine And.intro (by with_reducible rfl) ?_
            conv => whnf
            refine And.intro (by with_reducible rfl) ?_
            conv => whnf
            refine And.intro (by with_reducible rfl) ?_
            conv => whnf
            refine And.intro (by with_reducible rfl) ?_
            conv => whnf
            refine And.intro (by with_reducible rfl) ?_
            conv => whnf
            refine And.intro (by with_reducible rfl) ?_
            conv => whnf
            refine And.intro (by with_reducible rfl) ?_
            conv => whnf
            refine And.intro (by (exact sub_e hz hIl0.1 (by assumption))) ?_
            exact True.intro
      · replace hc1 := of_decide_eq_false hc1
        conv => whnf
        refine AV.of_eqv ?_
        conv => whnf
        refine And.intro (by (rw [rc_end hIl0 (by simp only [List.length_map] at *; omega)])) ?_
        exact True.intro
    · replace hc0 := of_decide_eq_false hc0
      conv => whnf
      refine br_r rfl rfl ?_
      conv => whnf
      refine br_r rfl rfl ?_
      conv => whnf
      refine br_r rfl rfl ?_
      conv => whnf
      refine br_r rfl rfl ?_
      conv => whnf
      refine AV.of_eqv ?_
      conv => whnf
      refine And.intro (by (rw [rc_end hIl0 (by simp only [List.length_map] at *; omega)])) ?_
      exact True.intro
def pq (f a b c d s t x : Int) (B : By) : List AV := [.int .i64 f, .int .u32 a, .int .u32 b, .int .u32 c, .int .u32 d, .int .i64 s, .int .i64 t, .int .i64 x, .str B]
theorem pq_map {f a b c d s t x : Int} {l : List By} : (l.map (mkP f a b c d s t x)).map pr = l.map (pq f a b c d s t x) := by rw [List.map_map]; rfl
theorem cut_q (f a b c d s t x : Int) (B z : By) : Good Try.prog 50 [eQ f a b c d s t x B, .str z] (.sl .own 9 ((cuts 64 z).map (pq f a b c d s t x))) :=
  (cut_good f a b c d s t x B z).eq (by rw [pq_map])
theorem rcut_q (f a b c d s t x : Int) (B z : By) (hz : z.length ≤ 1000000) : Good Try.prog 51 [eQ f a b c d s t x B, .str z] (.sl .own 9 ((cuts 64 z).map (pq f a b c d s t x))) :=
  (rcut_good f a b c d s t x B z hz).eq (by rw [pq_map])
theorem join_q (f a b c d s t x : Int) (z : By) : Good Try.prog 52 [.sl .sh 9 ((cuts 64 z).map (pq f a b c d s t x)), .int .i64 s] (.str (z.take 4096)) := by
  have hl := cuts_len 64 z
  rw [← pq_map]
  refine (join_good ((cuts 64 z).map (mkP f a b c d s t x)) s (by rw [List.length_map]; omega) fun y hy => ?_).eq ?_
  · obtain ⟨b, hb, rfl⟩ := List.mem_map.1 hy
    have := cuts_mem 64 z b hb
    show b.length ≤ 500
    omega
  · rw [List.take_of_length_le (by rw [List.length_map]; omega)]
    have e : ∀ l : List By, jn (l.map (mkP f a b c d s t x)) s = l.flatMap id := by
      intro l
      induction l with
      | nil => rfl
      | cons y l ih =>
        have h1 : jn (mkP f a b c d s t x y :: l.map (mkP f a b c d s t x)) s = y ++ jn (l.map (mkP f a b c d s t x)) s := by
          unfold jn
          rw [List.filter_cons_of_pos (by simp [mkP]), List.flatMap_cons]
          rfl
        rw [List.map_cons, h1, ih, List.flatMap_cons]; rfl
    rw [e, cuts_join]
theorem ex_row_j {α : Type} {f : α → List AV} {l : List α} {i : Nat} {y : α} {K : List AV → Prop} (hy : l[i]? = some y) (h : K (f y)) : ∃ c, (l.map f)[i]? = some c ∧ K c :=
  ⟨f y, by rw [List.getElem?_map, hy]; rfl, h⟩
theorem fin_cut (z : By) : z.take 4096 = List.drop (Int.toNat 0) (List.take (mmI false ((z.length : Nat) : Int) 4096).toNat z) := by
  have e : (mmI false ((z.length : Nat) : Int) 4096).toNat = min z.length 4096 := by simp only [mmI]; omega
  rw [e]
  show _ = List.take (min z.length 4096) z
  rw [List.take_eq_take_iff]; omega
theorem all_step10 {l : List Pk} {i : Nat} {y : Pk} (h : ∀ x ∈ l.take i, x.2.2.2.2.2.2.2.2.length ≤ 500) (hy : l[i]? = some y) (h2 : y.2.2.2.2.2.2.2.2.length ≤ 500) : ∀ x ∈ l.take (i + 1), x.2.2.2.2.2.2.2.2.length ≤ 500 := by
  intro x hx
  rw [take_at hy] at hx
  rcases List.mem_append.1 hx with hx | hx
  · exact h x hx
  · obtain rfl := List.mem_singleton.1 hx; exact h2
theorem all_end10 {l : List Pk} {i : Nat} (h : ∀ x ∈ l.take i, x.2.2.2.2.2.2.2.2.length ≤ 500) (hi : ¬ i < l.length) : ∀ x ∈ l, x.2.2.2.2.2.2.2.2.length ≤ 500 := by rw [take_end hi] at h; exact h
theorem parcelCuts_good (f a b c d s t x : Int) (B z : By) (l : List Pk) : Good Try.prog 10 [eQ f a b c d s t x B, .str z, .sl .sh 9 (l.map pr)] (.bool true) := by
  have hcl := cuts_len 64 z
  have hcm := cuts_mem 64 z
  apply good_at ak10 rfl rfl rfl
  conv => whnf
  refine And.intro (fun hc0 => ?_) (fun hc0 => ?_)
  · replace hc0 := of_decide_eq_false hc0
    conv => whnf
    refine br_l rfl rfl ?_
    conv => whnf
    refine br_l rfl rfl ?_
    conv => whnf
    refine br_l rfl rfl ?_
    conv => whnf
    refine br_r rfl rfl ?_
    conv => whnf
    refine And.intro (fun hc1 => ?_) (fun hc1 => ?_)
    · replace hc1 := of_decide_eq_false hc1
      conv => whnf
      refine br_l rfl rfl ?_
      conv => whnf
      refine br_l rfl rfl ?_
      conv => whnf
      refine br_r rfl rfl ?_
      conv => whnf
      refine And.intro (fun hc2 => ?_) (fun hc2 => ?_)
      · replace hc2 := of_decide_eq_true hc2
        conv => whnf
        refine ⟨_, awake10_good, ?_⟩
        conv => whnf
        refine AV.of_eqv ?_
        conv => whnf
        refine And.intro (by with_reducible rfl) ?_
        exact True.intro
      · replace hc2 := of_decide_eq_false hc2
        conv => whnf
        refine loop_at (α := Nat) [] (fun i => [(30, .int .i64 (i : Int))]) (fun i => []) (fun i => i ≤ l.length ∧ (∀ x ∈ l.take i, x.2.2.2.2.2.2.2.2.length ≤ 500)) (fun i => l.length - i) (0) (st_of ?_) ?_ (by rintro i _; rfl) ?_
        · conv => whnf
          refine And.intro (by with_reducible rfl) ?_
          conv => whnf
          refine And.intro (by with_reducible rfl) ?_
          conv => whnf
          refine And.intro (by with_reducible rfl) ?_
          conv => whnf
          refine And.intro (by with_reducible rfl) ?_
          conv => whnf
          refine And.intro (by with_reducible rfl) ?_
          conv => whnf
          refine And.intro (by with_reducible rfl) ?_
          conv => whnf
          refine And.intro (by with_reducible rfl) ?_
          conv => whnf
          refine And.intro (by with_reducible rfl) ?_
          conv => whnf
          refine And.intro (by with_reducible rfl) ?_
          conv => whnf
          refine And.intro (by with_reducible rfl) ?_
          conv => whnf
          refine And.intro (by with_reducible rfl) ?_
          conv => whnf
          refine And.intro (by with_reducible rfl) ?_
          refine And.intro (by with_reducible rfl) ?_
          conv => whnf
          refine And.intro (by with_reducible rfl) ?_
          conv => whnf
          refine And.intro (by with_reducible rfl) ?_
          conv => whnf
          refine And.intro (by with_reducible rfl) ?_
          conv => whnf
          refine And.intro (by with_reducible rfl) ?_
          conv => whnf
          refine And.intro (by with_reducible rfl) ?_
          refine And.intro (by with_reducible rfl) ?_
          conv => whnf
          refine And.intro (by with_reducible rfl) ?_
          conv => whnf
          refine And.intro (by with_reducible rfl) ?_
          conv => whnf
          refine And.intro (by with_reducible rfl) ?_
          conv => whnf
          refine And.intro (by with_reducible rfl) ?_
          conv => whnf
          refine And.intro (by with_reducible rfl) ?_
          conv => whnf
          refine And.intro (by with_reducible rfl) ?_
          conv => whnf
          refine And.intro (by with_reducible rfl) ?_
          conv => whnf
          refine And.intro (by with_reducible rfl) ?_
          conv => whnf
          refine And.intro (by with_reducible rfl) ?_
          conv => whnf
          refine And.intro (by with_reducible rfl) ?_
          conv => whnf
          refine And.intro (by with_reducible rfl) ?_
          conv => whnf
          refine And.intro (by decide) ?_
          conv => whnf
          refine And.intro (by with_reducible rfl) ?_
          conv => whnf
          refine And.intro (by with_reducible rfl) ?_
          conv => whnf
          refine And.intro (by with_reducible rfl) ?_
          conv => whnf
          refine And.intro (by with_reducible rfl) ?_
          conv => whnf
          refine And.intro (by with_reducible rfl) ?_
          conv => whnf
          refine And.intro (by with_reducible rfl) ?_
          conv => whnf
          refine And.intro (by with_reducible rfl) ?_
          conv => whnf
          refine And.intro (by with_reducible rfl) ?_
          conv => whnf
          refine And.intro (by with_reducible rfl) ?_
          exact True.intro
        · (exact ⟨by omega, fun x hx => by cases hx⟩)
        · rintro i nextl0 hIl0 ihl0
          try dsimp only at hIl0
          conv => whnf
          refine And.intro (fun hc3 => ?_) (fun hc3 => ?_)
          · replace hc3 := of_decide_eq_true hc3
            conv => whnf
            refine And.intro (by omega) ?_
            refine ex_row (l := l) ?_ fun y hy => ?_
            · (simp only [map_rows] at *; omega)
            · simp only [toNat_ofNat] at hy
              conv => whnf
              refine And.intro (fun hc5 => ?_) (fun hc5 => ?_)
              · replace hc5 := of_decide_eq_true hc5
                conv => whnf
                refine ⟨_, awake10_good, ?_⟩
                conv => whnf
                refine AV.of_eqv ?_
                conv => whnf
                refine And.intro (by with_reducible rfl) ?_
                exact True.intro
              · replace hc5 := of_decide_eq_false hc5
                conv => whnf
                refine ihl0 (i + 1) _ ?_ ?_ (st_of ?_)
                · (exact ⟨by have := lt_at hy; omega, all_step10 hIl0.2 hy (by omega)⟩)
                · (simp only [map_rows] at *; omega)
                · conv => whnf
                  refine And.intro (by with_reducible rfl) ?_
                  conv => whnf
                  refine And.intro (by with_reducible rfl) ?_
                  conv => whnf
                  refine And.intro (by with_reducible rfl) ?_
                  conv => whnf
                  refine And.intro (by with_reducible rfl) ?_
                  conv => whnf
                  refine And.intro (by with_reducible rfl) ?_
                  conv => whnf
                  refine And.intro (by with_reducible rfl) ?_
                  conv => whnf
                  refine And.intro (by with_reducible rfl) ?_
                  conv => whnf
                  refine And.intro (by with_reducible rfl) ?_
                  conv => whnf
                  refine And.intro (by with_reducible rfl) ?_
                  conv => whnf
                  refine And.intro (by with_reducible rfl) ?_
                  conv => whnf
                  refine And.intro (by with_reducible rfl) ?_
                  conv => whnf
                  refine And.intro (by with_reducible rfl) ?_
                  refine And.intro (by with_reducible rfl) ?_
                  conv => whnf
                  refine And.intro (by with_reducible rfl) ?_
                  conv => whnf
                  refine And.intro (by with_reducible rfl) ?_
                  conv => whnf
                  refine And.intro (by with_reducible rfl) ?_
                  conv => whnf
                  refine And.intro (by with_reducible rfl) ?_
                  conv => whnf
                  refine And.intro (by with_reducible rfl) ?_
                  refine And.intro (by with_reducible rfl) ?_
                  conv => whnf
                  refine And.intro (by with_reducible rfl) ?_
                  conv => whnf
                  refine And.intro (by with_reducible rfl) ?_
                  conv => whnf
                  refine And.intro (by with_reducible rfl) ?_
                  conv => whnf
                  refine And.intro (by with_reducible rfl) ?_
                  conv => whnf
                  refine And.intro (by with_reducible rfl) ?_
                  conv => whnf
                  refine And.intro (by with_reducible rfl) ?_
                  conv => whnf
                  refine And.intro (by with_reducible rfl) ?_
                  conv => whnf
                  refine And.intro (by with_reducible rfl) ?_
                  conv => whnf
                  refine And.intro (by with_reducible rfl) ?_
                  conv => whnf
                  refine And.intro (by with_reducible rfl) ?_
                  conv => whnf
                  refine And.intro (by with_reducible rfl) ?_
                  conv => whnf
                  refine And.intro (by (simp only [wrap_i64, wrap_u64, wrap_u32, wrap_u16, wrap_u8, maxLen_eq, mmI] at *; omega)) ?_
                  conv => whnf
                  refine And.intro (by with_reducible rfl) ?_
                  conv => whnf
                  refine And.intro (by with_reducible rfl) ?_
                  conv => whnf
                  refine And.intro (by with_reducible rfl) ?_
                  conv => whnf
                  refine And.intro (by with_reducible rfl) ?_
                  conv => whnf
                  refine And.intro (by with_reducible rfl) ?_
                  conv => whnf
                  refine And.intro (by with_reducible rfl) ?_
                  conv => whnf
                  refine And.intro (by with_reducible rfl) ?_
                  conv => whnf
                  refine And.intro (by with_reducible rfl) ?_
                  conv => whnf
                  refine And.intro (by with_reducible rfl) ?_
                  exact True.intro
          · replace hc3 := of_decide_eq_false hc3
            conv => whnf
            refine And.intro (by exact rfl) ?_
            conv => whnf
            refine ⟨_, cut_q _ _ _ _ _ _ _ _ _ _, ?_⟩
            conv => whnf
            refine ⟨_, rcut_q _ _ _ _ _ _ _ _ _ _ ?_, ?_⟩
            · omega
            · conv => whnf
              refine And.intro (by exact rfl) ?_
              conv => whnf
              refine And.intro (fun hc6 => ?_) (fun hc6 => ?_)
              · replace hc6 := of_decide_eq_true (Bool.not_eq_false' _ |>.mp hc6)
                conv => whnf
                refine br_l rfl rfl ?_
                conv => whnf
                refine br_l rfl rfl ?_
                conv => whnf
                refine br_l rfl rfl ?_
                conv => whnf
                refine ⟨_, join_good _ _ ?_ ?_, ?_⟩
                · (simp only [map_rows] at *; omega)
                · (exact all_end10 hIl0.2 (by simp only [map_rows] at *; omega))
                · conv => whnf
                  refine br_l rfl rfl ?_
                  conv => whnf
                  refine br_l rfl rfl ?_
                  conv => whnf
                  refine br_l rfl rfl ?_
                  conv => whnf
                  refine br_l rfl rfl ?_
                  conv => whnf
                  refine ⟨_, rjoin_good _ _ ?_ ?_, ?_⟩
                  · (simp only [map_rows] at *; omega)
                  · (exact all_end10 hIl0.2 (by simp only [map_rows] at *; omega))
                  · conv => whnf
                    refine br_l rfl rfl ?_
                    conv => whnf
                    refine br_r rfl rfl ?_
                    conv => whnf
                    refine And.intro (fun hc7 => ?_) (fun hc7 => ?_)
                    · replace hc7 := of_decide_eq_false (Bool.not_eq_true' _ |>.mp hc7)
                      contradiction
                    · replace hc7 := of_decide_eq_true (Bool.not_eq_false' _ |>.mp hc7)
                      conv => whnf
                      refine loop_at (α := Nat) [] (fun i => [(64, .int .i64 (i : Int))]) (fun i => []) (fun i => i ≤ (cuts 64 z).length) (fun i => (cuts 64 z).length - i) (0) (st_of ?_) ?_ (by rintro i _; rfl) ?_
                      · conv => whnf
                        refine And.intro (by with_reducible rfl) ?_
                        conv => whnf
                        refine And.intro (by with_reducible rfl) ?_
                        conv => whnf
                        refine And.intro (by with_reducible rfl) ?_
                        conv => whnf
                        refine And.intro (by with_reducible rfl) ?_
                        conv => whnf
                        refine And.intro (by with_reducible rfl) ?_
                        conv => whnf
                        refine And.intro (by with_reducible rfl) ?_
                        conv => whnf
                        refine And.intro (by with_reducible rfl) ?_
                        conv => whnf
                        refine And.intro (by with_reducible rfl) ?_
                        conv => whnf
                        refine And.intro (by with_reducible rfl) ?_
                        conv => whnf
                        refine And.intro (by with_reducible rfl) ?_
                        conv => whnf
                        refine And.intro (by with_reducible rfl) ?_
                        conv => whnf
                        refine And.intro (by with_reducible rfl) ?_
                        refine And.intro (by with_reducible rfl) ?_
                        conv => whnf
                        refine And.intro (by with_reducible rfl) ?_
                        conv => whnf
                        refine And.intro (by with_reducible rfl) ?_
                        conv => whnf
                        refine And.intro (by with_reducible rfl) ?_
                        conv => whnf
                        refine And.intro (by with_reducible rfl) ?_
                        conv => whnf
                        refine And.intro (by with_reducible rfl) ?_
                        conv => whnf
                        refine And.intro (by with_reducible rfl) ?_
                        conv => whnf
                        refine And.intro (by with_reducible rfl) ?_
                        refine And.intro (by with_reducible rfl) ?_
                        conv => whnf
                        refine And.intro (by with_reducible rfl) ?_
                        conv => whnf
                        refine And.intro (by with_reducible rfl) ?_
                        conv => whnf
                        refine And.intro (by with_reducible rfl) ?_
                        conv => whnf
                        refine And.intro (by with_reducible rfl) ?_
                        conv => whnf
                        refine And.intro (by with_reducible rfl) ?_
                        conv => whnf
                        refine And.intro (by with_reducible rfl) ?_
                        conv => whnf
                        refine And.intro (by with_reducible rfl) ?_
                        conv => whnf
                        refine And.intro (by with_reducible rfl) ?_
                        conv => whnf
                        refine And.intro (by with_reducible rfl) ?_
                        conv => whnf
                        refine And.intro (by with_reducible rfl) ?_
                        conv => whnf
                        refine And.intro (by with_reducible rfl) ?_
                        conv => whnf
                        refine And.intro (by with_reducible rfl) ?_
                        conv => whnf
                        refine And.intro (by with_reducible rfl) ?_
                        conv => whnf
                        refine And.intro (by with_reducible rfl) ?_
                        conv => whnf
                        refine And.intro (by with_reducible rfl) ?_
                        conv => whnf
                        refine And.intro (by with_reducible rfl) ?_
                        conv => whnf
                        refine And.intro (by with_reducible rfl) ?_
                        conv => whnf
                        refine And.intro (by with_reducible rfl) ?_
                        conv => whnf
                        refine And.intro (by with_reducible rfl) ?_
                        conv => whnf
                        refine And.intro (by with_reducible rfl) ?_
                        conv => whnf
                        refine And.intro (by with_reducible rfl) ?_
                        conv => whnf
                        refine And.intro (by with_reducible rfl) ?_
                        conv => whnf
                        refine And.intro (by with_reducible rfl) ?_
                        conv => whnf
                        refine And.intro (by with_reducible rfl) ?_
                        conv => whnf
                        refine And.intro (by with_reducible rfl) ?_
                        conv => whnf
                        refine And.intro (by with_reducible rfl) ?_
                        conv => whnf
                        refine And.intro (by with_reducible rfl) ?_
                        conv => whnf
                        refine And.intro (by with_reducible rfl) ?_
                        conv => whnf
                        refine And.intro (by with_reducible rfl) ?_
                        conv => whnf
                        refine And.intro (by with_reducible rfl) ?_
                        conv => whnf
                        refine And.intro (by with_reducible rfl) ?_
                        conv => whnf
                        refine And.intro (by with_reducible rfl) ?_
                        conv => whnf
                        refine And.intro (by with_reducible rfl) ?_
                        conv => whnf
                        refine And.intro (by with_reducible rfl) ?_
                        conv => whnf
                        refine And.intro (by with_reducible rfl) ?_
                        conv => whnf
                        refine And.intro (by with_reducible rfl) ?_
                        conv => whnf
                        refine And.intro (by with_reducible rfl) ?_
                        conv => whnf
                        refine And.intro (by with_reducible rfl) ?_
                        conv => whnf
                        refine And.intro (by with_reducible rfl) ?_
                        conv => whnf
                        refine And.intro (by with_reducible rfl) ?_
                        conv => whnf
                        refine And.intro (by with_reducible rfl) ?_
                        conv => whnf
                        refine And.intro (by with_reducible rfl) ?_
                        conv => whnf
                        refine And.intro (by with_reducible rfl) ?_
                        refine And.intro (by with_reducible rfl) ?_
                        conv => whnf
                        refine And.intro (by with_reducible rfl) ?_
                        conv => whnf
                        refine And.intro (by with_reducible rfl) ?_
                        conv => whnf
                        refine And.intro (by with_reducible rfl) ?_
                        conv => whnf
                        refine And.intro (by with_reducible rfl) ?_
                        refine And.intro (by with_reducible rfl) ?_
                        conv => whnf
                        refine And.intro (by with_reducible rfl) ?_
                        conv => whnf
                        refine And.intro (by with_reducible rfl) ?_
                        conv => whnf
                        refine And.intro (by with_reducible rfl) ?_
                        conv => whnf
                        refine And.intro (by with_reducible rfl) ?_
                        conv => whnf
                        refine And.intro (by with_reducible rfl) ?_
                        conv => whnf
                        refine And.intro (by with_reducible rfl) ?_
                        conv => whnf
                        refine And.intro (by decide) ?_
                        conv => whnf
                        refine And.intro (by with_reducible rfl) ?_
                        conv => whnf
                        refine And.intro (by with_reducible rfl) ?_
                        conv => whnf
                        refine And.intro (by with_reducible rfl) ?_
                        conv => whnf
                        refine And.intro (by with_reducible rfl) ?_
                        conv => whnf
                        refine And.intro (by with_reducible rfl) ?_
                        conv => whnf
                        refine And.intro (by with_reducible rfl) ?_
                        conv => whnf
                        refine And.intro (by with_reducible rfl) ?_
                        conv => whnf
                        refine And.intro (by with_reducible rfl) ?_
                        conv => whnf
                        refine And.intro (by with_reducible rfl) ?_
                        exact True.intro
                      · omega
                      · rintro i nextl1 hIl1 ihl1
                        try dsimp only at hIl1
                        conv => whnf
                        refine And.intro (fun hc8 => ?_) (fun hc8 => ?_)
                        · replace hc8 := of_decide_eq_true hc8
                          conv => whnf
                          refine And.intro (by exact rfl) ?_
                          conv => whnf
                          refine And.intro (by omega) ?_
                          refine ex_row (l := cuts 64 z) (i := i) ?_ fun v hv => ?_
                          · (simp only [map_rows] at *; omega)
                          · conv => whnf
                            refine And.intro (by omega) ?_
                            refine ex_row_j (by assumption) ?_
                            conv => whnf
                            refine And.intro (fun hc11 => ?_) (fun hc11 => ?_)
                            · simp only [Bool.not_eq_true', Bool.not_eq_false', Bool.and_eq_true, Bool.and_eq_false_imp, Bool.or_eq_true, Bool.or_eq_false_iff, Bool.and_true, Bool.true_and, Bool.not_true, Bool.not_false, decide_eq_true_eq, decide_eq_false_iff_not, Bool.decide_and] at hc11
                              conv => whnf
                              refine br_l rfl rfl ?_
                              conv => whnf
                              refine br_l rfl rfl ?_
                              conv => whnf
                              refine And.intro (by omega) ?_
                              refine ex_row_j (by assumption) ?_
                              conv => whnf
                              refine br_l rfl rfl ?_
                              conv => whnf
                              refine br_l rfl rfl ?_
                              conv => whnf
                              refine br_l rfl rfl ?_
                              conv => whnf
                              refine br_l rfl rfl ?_
                              conv => whnf
                              refine br_r rfl rfl ?_
                              conv => whnf
                              refine And.intro (fun hc13 => ?_) (fun hc13 => ?_)
                              · replace hc13 := of_decide_eq_false hc13
                                conv => whnf
                                refine br_l rfl rfl ?_
                                conv => whnf
                                refine br_l rfl rfl ?_
                                conv => whnf
                                refine And.intro (by omega) ?_
                                refine ex_row_j (by assumption) ?_
                                conv => whnf
                                refine br_l rfl rfl ?_
                                conv => whnf
                                refine br_l rfl rfl ?_
                                conv => whnf
                                refine br_l rfl rfl ?_
                                conv => whnf
                                refine br_l rfl rfl ?_
                                conv => whnf
                                refine br_r rfl rfl ?_
                                conv => whnf
                                refine And.intro (fun hc15 => ?_) (fun hc15 => ?_)
                                · replace hc15 := of_decide_eq_false hc15
                                  conv => whnf
                                  refine br_l rfl rfl ?_
                                  conv => whnf
                                  refine br_l rfl rfl ?_
                                  conv => whnf
                                  refine And.intro (by omega) ?_
                                  refine ex_row_j (by assumption) ?_
                                  conv => whnf
                                  refine br_l rfl rfl ?_
                                  conv => whnf
                                  refine br_l rfl rfl ?_
                                  conv => whnf
                                  refine br_l rfl rfl ?_
                                  conv => whnf
                                  refine br_l rfl rfl ?_
                                  conv => whnf
                                  refine br_l rfl rfl ?_
                                  conv => whnf
                                  refine br_r rfl rfl ?_
                                  conv => whnf
                                  refine And.intro (fun hc17 => ?_) (fun hc17 => ?_)
                                  · replace hc17 := of_decide_eq_true (Bool.not_eq_false' _ |>.mp hc17)
                                    conv => whnf
                                    refine br_l rfl rfl ?_
                                    conv => whnf
                                    refine br_l rfl rfl ?_
                                    conv => whnf
                                    refine And.intro (by omega) ?_
                                    refine ex_row_j (by assumption) ?_
                                    conv => whnf
                                    refine br_l rfl rfl ?_
                                    conv => whnf
                                    refine br_l rfl rfl ?_
                                    conv => whnf
                                    refine br_l rfl rfl ?_
                                    conv => whnf
                                    refine br_l rfl rfl ?_
                                    conv => whnf
                                    refine br_l rfl rfl ?_
                                    conv => whnf
                                    refine br_r rfl rfl ?_
                                    conv => whnf
                                    refine And.intro (fun hc19 => ?_) (fun hc19 => ?_)
                                    · replace hc19 := of_decide_eq_false (Bool.not_eq_true' _ |>.mp hc19)
                                      contradiction
                                    · replace hc19 := of_decide_eq_true (Bool.not_eq_false' _ |>.mp hc19)
                                      conv => whnf
                                      refine ihl1 (i + 1) _ ?_ ?_ (st_of ?_)
                                      · (simp only [map_rows] at *; omega)
                                      · (simp only [map_rows] at *; omega)
                                      · conv => whnf
                                        refine And.intro (by with_reducible rfl) ?_
                                        conv => whnf
                                        refine And.intro (by with_reducible rfl) ?_
                                        conv => whnf
                                        refine And.intro (by with_reducible rfl) ?_
                                        conv => whnf
                                        refine And.intro (by with_reducible rfl) ?_
                                        conv => whnf
                                        refine And.intro (by with_reducible rfl) ?_
                                        conv => whnf
                                        refine And.intro (by with_reducible rfl) ?_
                                        conv => whnf
                                        refine And.intro (by with_reducible rfl) ?_
                                        conv => whnf
                                        refine And.intro (by with_reducible rfl) ?_
                                        conv => whnf
                                        refine And.intro (by with_reducible rfl) ?_
                                        conv => whnf
                                        refine And.intro (by with_reducible rfl) ?_
                                        conv => whnf
                                        refine And.intro (by with_reducible rfl) ?_
                                        conv => whnf
                                        refine And.intro (by with_reducible rfl) ?_
                                        refine And.intro (by with_reducible rfl) ?_
                                        conv => whnf
                                        refine And.intro (by with_reducible rfl) ?_
                                        conv => whnf
                                        refine And.intro (by with_reducible rfl) ?_
                                        conv => whnf
                                        refine And.intro (by with_reducible rfl) ?_
                                        conv => whnf
                                        refine And.intro (by with_reducible rfl) ?_
                                        conv => whnf
                                        refine And.intro (by with_reducible rfl) ?_
                                        conv => whnf
                                        refine And.intro (by with_reducible rfl) ?_
                                        conv => whnf
                                        refine And.intro (by with_reducible rfl) ?_
                                        refine And.intro (by with_reducible rfl) ?_
                                        conv => whnf
                                        refine And.intro (by with_reducible rfl) ?_
                                        conv => whnf
                                        refine And.intro (by with_reducible rfl) ?_
                                        conv => whnf
                                        refine And.intro (by with_reducible rfl) ?_
                                        conv => whnf
                                        refine And.intro (by with_reducible rfl) ?_
                                        conv => whnf
                                        refine And.intro (by with_reducible rfl) ?_
                                        conv => whnf
                                        refine And.intro (by with_reducible rfl) ?_
                                        conv => whnf
                                        refine And.intro (by with_reducible rfl) ?_
                                        conv => whnf
                                        refine And.intro (by with_reducible rfl) ?_
                                        conv => whnf
                                        refine And.intro (by with_reducible rfl) ?_
                                        conv => whnf
                                        refine And.intro (by with_reducible rfl) ?_
                                        conv => whnf
                                        refine And.intro (by with_reducible rfl) ?_
                                        conv => whnf
                                        refine And.intro (by with_reducible rfl) ?_
                                        conv => whnf
                                        refine And.intro (by with_reducible rfl) ?_
                                        conv => whnf
                                        refine And.intro (by with_reducible rfl) ?_
                                        conv => whnf
                                        refine And.intro (by with_reducible rfl) ?_
                                        conv => whnf
                                        refine And.intro (by with_reducible rfl) ?_
                                        conv => whnf
                                        refine And.intro (by with_reducible rfl) ?_
                                        conv => whnf
                                        refine And.intro (by with_reducible rfl) ?_
                                        conv => whnf
                                        refine And.intro (by with_reducible rfl) ?_
                                        conv => whnf
                                        refine And.intro (by with_reducible rfl) ?_
                                        conv => whnf
                                        refine And.intro (by with_reducible rfl) ?_
                                        conv => whnf
                                        refine And.intro (by with_reducible rfl) ?_
                                        conv => whnf
                                        refine And.intro (by with_reducible rfl) ?_
                                        conv => whnf
                                        refine And.intro (by with_reducible rfl) ?_
                                        conv => whnf
                                        refine And.intro (by with_reducible rfl) ?_
                                        conv => whnf
                                        refine And.intro (by with_reducible rfl) ?_
                                        conv => whnf
                                        refine And.intro (by with_reducible rfl) ?_
                                        conv => whnf
                                        refine And.intro (by with_reducible rfl) ?_
                                        conv => whnf
                                        refine And.intro (by with_reducible rfl) ?_
                                        conv => whnf
                                        refine And.intro (by with_reducible rfl) ?_
                                        conv => whnf
                                        refine And.intro (by with_reducible rfl) ?_
                                        conv => whnf
                                        refine And.intro (by with_reducible rfl) ?_
                                        conv => whnf
                                        refine And.intro (by with_reducible rfl) ?_
                                        conv => whnf
                                        refine And.intro (by with_reducible rfl) ?_
                                        conv => whnf
                                        refine And.intro (by with_reducible rfl) ?_
                                        conv => whnf
                                        refine And.intro (by with_reducible rfl) ?_
                                        conv => whnf
                                        refine And.intro (by with_reducible rfl) ?_
                                        conv => whnf
                                        refine And.intro (by with_reducible rfl) ?_
                                        conv => whnf
                                        refine And.intro (by with_reducible rfl) ?_
                                        conv => whnf
                                        refine And.intro (by with_reducible rfl) ?_
                                        conv => whnf
                                        refine And.intro (by with_reducible rfl) ?_
                                        conv => whnf
                                        refine And.intro (by with_reducible rfl) ?_
                                        conv => whnf
                                        refine And.intro (by with_reducible rfl) ?_
                                        refine And.intro (by with_reducible rfl) ?_
                                        conv => whnf
                                        refine And.intro (by with_reducible rfl) ?_
                                        conv => whnf
                                        refine And.intro (by with_reducible rfl) ?_
                                        conv => whnf
                                        refine And.intro (by with_reducible rfl) ?_
                                        conv => whnf
                                        refine And.intro (by with_reducible rfl) ?_
                                        refine And.intro (by with_reducible rfl) ?_
                                        conv => whnf
                                        refine And.intro (by with_reducible rfl) ?_
                                        conv => whnf
                                        refine And.intro (by with_reducible rfl) ?_
                                        conv => whnf
                                        refine And.intro (by with_reducible rfl) ?_
                                        conv => whnf
                                        refine And.intro (by with_reducible rfl) ?_
                                        conv => whnf
                                        refine And.intro (by with_reducible rfl) ?_
                                        conv => whnf
                                        refine And.intro (by with_reducible rfl) ?_
                                        conv => whnf
                                        refine And.intro (by (simp only [wrap_i64, wrap_u64, wrap_u32, wrap_u16, wrap_u8, maxLen_eq, mmI] at *; omega)) ?_
                                        conv => whnf
                                        refine And.intro (by with_reducible rfl) ?_
                                        conv => whnf
                                        refine And.intro (by with_reducible rfl) ?_
                                        conv => whnf
                                        refine And.intro (by with_reducible rfl) ?_
                                        conv => whnf
                                        refine And.intro (by with_reducible rfl) ?_
                                        conv => whnf
                                        refine And.intro (by with_reducible rfl) ?_
                                        conv => whnf
                                        refine And.intro (by with_reducible rfl) ?_
                                        conv => whnf
                                        refine And.intro (by with_reducible rfl) ?_
                                        conv => whnf
                                        refine And.intro (by with_reducible rfl) ?_
                                        conv => whnf
                                        refine And.intro (by with_reducible rfl) ?_
                                        exact True.intro
                                  · replace hc17 := of_decide_eq_false (Bool.not_eq_true' _ |>.mp hc17)
                                    contradiction
                                · replace hc15 := of_decide_eq_true hc15
                                  (exfalso; have := hcm v (List.mem_of_getElem? hv); omega)
                              · replace hc13 := of_decide_eq_true hc13
                                (exfalso; have := hcm v (List.mem_of_getElem? hv); omega)
                            · simp only [Bool.not_eq_true', Bool.not_eq_false', Bool.and_eq_true, Bool.and_eq_false_imp, Bool.or_eq_true, Bool.or_eq_false_iff, Bool.and_true, Bool.true_and, Bool.not_true, Bool.not_false, decide_eq_true_eq, decide_eq_false_iff_not, Bool.decide_and] at hc11
                              (simp at hc11; done)
                        · replace hc8 := of_decide_eq_false hc8
                          conv => whnf
                          refine ⟨_, join_q _ _ _ _ _ _ _ _ _, ?_⟩
                          conv => whnf
                          refine And.intro (by decide) ?_
                          refine And.intro (by (simp only [wrap_i64, wrap_u64, wrap_u32, wrap_u16, wrap_u8, maxLen_eq, mmI] at *; omega)) ?_
                          refine And.intro (by (simp only [wrap_i64, wrap_u64, wrap_u32, wrap_u16, wrap_u8, maxLen_eq, mmI] at *; omega)) ?_
                          conv => whnf
                          refine And.intro (fun hc20 => ?_) (fun hc20 => ?_)
                          · replace hc20 := of_decide_eq_true hc20
                            conv => whnf
                            refine ⟨_, awake10_good, ?_⟩
                            conv => whnf
                            refine br_l rfl rfl ?_
                            conv => whnf
                            refine AV.of_eqv ?_
                            conv => whnf
                            refine And.intro (by with_reducible rfl) ?_
                            exact True.intro
                          · replace hc20 := of_decide_eq_false hc20
                            (exact absurd (fin_cut z) (by assumption))
              · replace hc6 := of_decide_eq_false (Bool.not_eq_true' _ |>.mp hc6)
                contradiction
    · replace hc1 := of_decide_eq_true hc1
      conv => whnf
      refine br_r rfl rfl ?_
      conv => whnf
      refine br_r rfl rfl ?_
      conv => whnf
      refine br_l rfl rfl ?_
      conv => whnf
      refine br_l rfl rfl ?_
      conv => whnf
      refine ⟨_, awake10_good, ?_⟩
      conv => whnf
      refine AV.of_eqv ?_
      conv => whnf
      refine And.intro (by with_reducible rfl) ?_
      exact True.intro
  · replace hc0 := of_decide_eq_true hc0
    conv => whnf
    refine br_r rfl rfl ?_
    conv => whnf
    refine br_r rfl rfl ?_
    conv => whnf
    refine br_r rfl rfl ?_
    conv => whnf
    refine br_l rfl rfl ?_
    conv => whnf
    refine br_r rfl rfl ?_
    conv => whnf
    refine br_r rfl rfl ?_
    conv => whnf
    refine br_r rfl rfl ?_
    conv => whnf
    refine br_l rfl rfl ?_
    conv => whnf
    refine br_l rfl rfl ?_
    conv => whnf
    refine ⟨_, awake10_good, ?_⟩
    conv => whnf
    refine AV.of_eqv ?_
    conv => whnf
    refine And.intro (by with_reducible rfl) ?_
    exact True.intro
end Go.Proofs.Ytkcdeefnkbbacaa

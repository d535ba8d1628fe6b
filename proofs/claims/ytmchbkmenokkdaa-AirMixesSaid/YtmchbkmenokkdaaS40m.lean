/- The law AirMixes: what it calls, and its contract. -/
import Derived.Test.YtmchbkmenokkdaaS40
set_option maxRecDepth 100000
set_option linter.unusedSimpArgs false
set_option linter.unusedVariables false
namespace Go.Proofs.Ytmchbkmenokkdaa
open Go.RowKit
set_option maxHeartbeats 4000000
theorem ex_row_h {α : Type} {f : α → List AV} {l : List α} {i : Nat} {y : α} {K : List AV → Prop} (hy : l[i]? = some y) (h : K (f y)) : ∃ c, (l.map f)[i]? = some c ∧ K c :=
  ⟨f y, by rw [List.getElem?_map, hy]; rfl, h⟩
theorem ex_row_set_h {α : Type} {f : α → List AV} {l : List α} {i k : Nat} {x : α} {K : List AV → Prop} (hx : l[k]? = some x) (h : K (f x)) : ∃ c, ((l.map f).set i (f x))[k]? = some c ∧ K c := by
  refine ⟨f x, ?_, h⟩
  have hk := lt_at hx
  rw [List.getElem?_set]
  by_cases hik : i = k
  · subst hik; simp [hk]
  · rw [if_neg hik, List.getElem?_map, hx]; rfl
def nx (s : Int) : Int := IntKind.u64.wrap (IntKind.u64.wrap (s * 6364136223846793005) + 1442695040888963407)
theorem nx_good (s : Int) : Good Try.prog 109 [.int .u64 s] (.int .u64 (nx s)) := by
  apply good_at ak109 rfl rfl rfl
  conv => whnf
  refine AV.of_eqv ?_
  conv => whnf
  refine And.intro (by exact rfl) ?_
  exact True.intro
theorem rnx_good (s : Int) : Good Try.prog 110 [.int .u64 s] (.int .u64 (nx s)) := by
  apply good_at ak110 rfl rfl rfl
  conv => whnf
  refine AV.of_eqv ?_
  conv => whnf
  refine And.intro (by exact rfl) ?_
  exact True.intro
theorem nx_b (s : Int) : 0 ≤ nx s ∧ nx s < 18446744073709551616 := by unfold nx; rw [wrap_u64 (_ + _)]; omega
def kk (s i : Int) : Int := IntKind.i64.wrap (((nx s).fdiv (2 ^ (min (Int.toNat 33) IntKind.u64.bits))).tmod (IntKind.u64.wrap (IntKind.i64.wrap (i + 1))))
theorem kk_b (s i : Int) (h1 : 1 ≤ i) (h2 : i ≤ 1000000) : 0 ≤ kk s i ∧ kk s i ≤ i := by
  have hn := nx_b s
  unfold kk
  have e1 : (2 : Int) ^ (min (Int.toNat 33) IntKind.u64.bits) = 8589934592 := by decide
  have e2 : IntKind.u64.wrap (IntKind.i64.wrap (i + 1)) = i + 1 := by rw [wrap_i64, wrap_u64]; omega
  rw [e1, e2, Int.fdiv_eq_ediv_of_nonneg _ (by omega), Int.tmod_eq_emod_of_nonneg (by omega)]
  have h3 := Int.emod_nonneg (nx s / 8589934592) (show i + 1 ≠ 0 by omega)
  have h4 := Int.emod_lt_of_pos (nx s / 8589934592) (show 0 < i + 1 by omega)
  rw [wrap_i64]
  omega
def swp (l : List Fl) (i k : Nat) (x y : Fl) : List Fl := (l.set i x).set k y
theorem swp_len (l : List Fl) (i k : Nat) (x y : Fl) : (swp l i k x y).length = l.length := by simp [swp]
theorem swp_map (l : List Fl) (i k : Nat) (x y : Fl) : ((l.map fl).set i (fl x)).set k (fl y) = (swp l i k x y).map fl := by simp [swp, List.map_set]
def mixR : Nat → Int → List Fl → List Fl
  | 0, _, l => l
  | m + 1, s, l => match l[0 + (kk s ((m : Int) + 1)).toNat]?, l[0 + ((m : Int) + 1).toNat]? with
    | some x, some y => mixR m (nx s) (swp l (0 + ((m : Int) + 1).toNat) (0 + (kk s ((m : Int) + 1)).toNat) x y)
    | _, _ => l
theorem mixR_step {s i : Int} {l : List Fl} {x y : Fl} (h : 1 ≤ i) (hx : l[0 + (kk s i).toNat]? = some x) (hy : l[0 + i.toNat]? = some y) :
    mixR i.toNat s l = mixR (i - 1).toNat (nx s) (swp l (0 + i.toNat) (0 + (kk s i).toNat) x y) := by
  obtain ⟨m, hm⟩ : ∃ m : Nat, i = (m : Int) + 1 := ⟨(i - 1).toNat, by omega⟩
  subst hm
  rw [show ((m : Int) + 1).toNat = m + 1 by omega, show ((m : Int) + 1 - 1).toNat = m by omega]
  conv => lhs; unfold mixR
  rw [hx, hy]
  rfl
def mixL (l : List Fl) (s : Int) : List Fl := mixR (l.length - 1) s l
theorem mix_good (l : List Fl) (s : Int) (hl : l.length ≤ 1000000) : Good Try.prog 69 [.sl .sh 3 (l.map fl), .int .u64 s] (.sl .sh 3 ((mixL l s).map fl)) := by
  apply good_at ak69 rfl rfl rfl
  conv => whnf
  refine ⟨_, (joined_good _ _ l []) ?_ ?_ ?_ ?_, ?_⟩
  · with_reducible rfl
  · decide
  · assumption
  · decide
  · refine And.intro (by (exact flat_map (by intro a c hc; simp [fl] at hc; rcases hc with rfl | rfl | rfl <;> rfl) _)) ?_
    conv => whnf
    refine loop_at (α := Int × Int × List Fl) [] (fun ⟨i, s', cur⟩ => [(6, .int .i64 i), (1, .int .u64 s')]) (fun ⟨i, s', cur⟩ => [(0, some ⟨false, 3, cur.map fl⟩)]) (fun ⟨i, s', cur⟩ => cur.length = l.length ∧ i < cur.length ∧ -1 ≤ i ∧ mixR i.toNat s' cur = mixL l s) (fun ⟨i, s', cur⟩ => (i + 1).toNat) (((l.length : Int) - 1, s, l)) (st_of ?_) ?_ (by rintro ⟨i, s', cur⟩ _; rfl) ?_
    · conv => whnf
      refine And.intro (by with_reducible rfl) ?_
      conv => whnf
      refine And.intro (by with_reducible rfl) ?_
      conv => whnf
      refine And.intro (by with_reducible rfl) ?_
      conv => whnf
      refine And.intro (by with_reducible rfl) ?_
      refine And.intro (by with_reducible rfl) ?_
      conv => whnf
      refine And.intro (by (simp only [map_rows, wrap_i64, List.append_nil] at *; omega)) ?_
      conv => whnf
      refine And.intro (by with_reducible rfl) ?_
      conv => whnf
      refine And.intro (by with_reducible rfl) ?_
      refine And.intro (by with_reducible rfl) ?_
      conv => whnf
      refine And.intro (by with_reducible rfl) ?_
      refine And.intro (by with_reducible rfl) ?_
      conv => whnf
      refine And.intro (by with_reducible rfl) ?_
      conv => whnf
      refine And.intro (by with_reducible rfl) ?_
      conv => whnf
      refine And.intro (by (simp; done)) ?_
      exact True.intro
    · dsimp only
      (exact ⟨rfl, by omega, by omega, by rw [show ((l.length : Int) - 1).toNat = l.length - 1 by omega]; rfl⟩)
    · rintro ⟨i, s', cur⟩ nextl0 hIl0 ihl0
      try dsimp only at hIl0
      conv => whnf
      refine And.intro (fun hc0 => ?_) (fun hc0 => ?_)
      · replace hc0 := of_decide_eq_true hc0
        conv => whnf
        refine ⟨_, nx_good _, ?_⟩
        conv => whnf
        refine And.intro (by decide) ?_
        conv => whnf
        refine And.intro (by (simp only [wrap_i64, wrap_u64, wrap_u32, wrap_u16, wrap_u8, maxLen_eq, mmI] at *; omega)) ?_
        conv => whnf
        refine And.intro (by exact rfl) ?_
        conv => whnf
        refine And.intro (by (exact (kk_b s' i (by omega) (by omega)).1)) ?_
        refine And.intro (by decide) ?_
        refine And.intro (by (have hk := kk_b s' i (by omega) (by omega); simp only [map_rows, List.append_nil]; exact Int.lt_of_le_of_lt hk.2 (by omega))) ?_
        conv => whnf
        refine ex_row (l := cur) ?_ fun x hx => ?_
        · (have hk := kk_b s' i (by omega) (by omega); unfold kk at hk; omega)
        · conv => whnf
          refine And.intro (by omega) ?_
          refine And.intro (by decide) ?_
          refine And.intro (by (simp only [map_rows, wrap_i64, List.append_nil] at *; omega)) ?_
          conv => whnf
          refine ex_row (l := cur) (i := 0 + Int.toNat i) ?_ fun y hy => ?_
          · omega
          · conv => whnf
            refine And.intro (by omega) ?_
            refine And.intro (by decide) ?_
            refine And.intro (by (simp only [map_rows, wrap_i64, List.append_nil] at *; omega)) ?_
            conv => whnf
            refine ex_row_h hy ?_
            conv => whnf
            refine And.intro (by (exact (kk_b s' i (by omega) (by omega)).1)) ?_
            refine And.intro (by decide) ?_
            refine And.intro (by (have hk := kk_b s' i (by omega) (by omega); simp only [map_rows, List.append_nil]; exact Int.lt_of_le_of_lt hk.2 (by omega))) ?_
            conv => whnf
            refine ex_row_set_h (f := fl) hx ?_
            conv => whnf
            refine ihl0 ((i - 1, nx s', swp cur (0 + i.toNat) (0 + (kk s' i).toNat) x y)) _ ?_ ?_ (st_of ?_)
            · dsimp only
              (exact ⟨by rw [swp_len]; omega, by rw [swp_len]; omega, by omega, (mixR_step (by omega) hx hy).symm.trans hIl0.2.2.2⟩)
            · dsimp only
              omega
            · conv => whnf
              refine And.intro (by with_reducible rfl) ?_
              conv => whnf
              refine And.intro (by with_reducible rfl) ?_
              conv => whnf
              refine And.intro (by with_reducible rfl) ?_
              conv => whnf
              refine And.intro (by with_reducible rfl) ?_
              refine And.intro (by with_reducible rfl) ?_
              conv => whnf
              refine And.intro (by (simp only [map_rows, wrap_i64, List.append_nil] at *; omega)) ?_
              conv => whnf
              refine And.intro (by with_reducible rfl) ?_
              conv => whnf
              refine And.intro (by with_reducible rfl) ?_
              refine And.intro (by with_reducible rfl) ?_
              conv => whnf
              refine And.intro (by with_reducible rfl) ?_
              refine And.intro (by with_reducible rfl) ?_
              conv => whnf
              refine And.intro (by with_reducible rfl) ?_
              conv => whnf
              refine And.intro (by with_reducible rfl) ?_
              conv => whnf
              refine And.intro (by (exact swp_map cur _ _ x y)) ?_
              exact True.intro
      · replace hc0 := of_decide_eq_false hc0
        conv => whnf
        refine And.intro (by with_reducible rfl) ?_
        refine And.intro (by with_reducible rfl) ?_
        refine And.intro (by (simp only [map_rows, wrap_i64, List.append_nil] at *; omega)) ?_
        refine And.intro (by (exact flat_map (by intro a c hc; simp [fl] at hc; rcases hc with rfl | rfl | rfl <;> rfl) _)) ?_
        conv => whnf
        refine AV.of_eqv ?_
        conv => whnf
        refine And.intro (by (have e : cur = mixL l s := (by have h := hIl0.2.2.2; rw [show i.toNat = 0 by omega] at h; exact h); rw [← e, List.drop_zero, List.take_of_length_le (by simp only [map_rows, List.append_nil]; omega)])) ?_
        exact True.intro
theorem rmix_good (l : List Fl) (s : Int) (hl : l.length ≤ 1000000) : Good Try.prog 70 [.sl .sh 3 (l.map fl), .int .u64 s] (.sl .sh 3 ((mixL l s).map fl)) := by
  apply good_at ak70 rfl rfl rfl
  conv => whnf
  refine And.intro (by (simp only [map_rows, wrap_i64, maxLen_eq] at *; omega)) ?_
  refine And.intro (by (simp only [map_rows, wrap_i64, maxLen_eq] at *; omega)) ?_
  refine And.intro (by (exact flat_map (by intro a c hc; simp [fl] at hc; rcases hc with rfl | rfl | rfl <;> rfl) _)) ?_
  conv => whnf
  refine loop_at (α := Int × Int × List Fl) [] (fun ⟨i, s', cur⟩ => [(6, .int .i64 i), (1, .int .u64 s')]) (fun ⟨i, s', cur⟩ => [(0, some ⟨false, 3, cur.map fl⟩)]) (fun ⟨i, s', cur⟩ => cur.length = l.length ∧ i < cur.length ∧ -1 ≤ i ∧ mixR i.toNat s' cur = mixL l s) (fun ⟨i, s', cur⟩ => (i + 1).toNat) (((l.length : Int) - 1, s, l)) (st_of ?_) ?_ (by rintro ⟨i, s', cur⟩ _; rfl) ?_
  · conv => whnf
    refine And.intro (by with_reducible rfl) ?_
    conv => whnf
    refine And.intro (by with_reducible rfl) ?_
    conv => whnf
    refine And.intro (by with_reducible rfl) ?_
    conv => whnf
    refine And.intro (by with_reducible rfl) ?_
    refine And.intro (by with_reducible rfl) ?_
    conv => whnf
    refine And.intro (by (simp only [map_rows, wrap_i64, maxLen_eq] at *; omega)) ?_
    conv => whnf
    refine And.intro (by with_reducible rfl) ?_
    conv => whnf
    refine And.intro (by with_reducible rfl) ?_
    conv => whnf
    refine And.intro (by with_reducible rfl) ?_
    refine And.intro (by with_reducible rfl) ?_
    conv => whnf
    refine And.intro (by with_reducible rfl) ?_
    refine And.intro (by with_reducible rfl) ?_
    conv => whnf
    refine And.intro (by with_reducible rfl) ?_
    conv => whnf
    refine And.intro (by with_reducible rfl) ?_
    conv => whnf
    refine And.intro (by with_reducible rfl) ?_
    exact True.intro
  · dsimp only
    (exact ⟨rfl, by omega, by omega, by rw [show ((l.length : Int) - 1).toNat = l.length - 1 by omega]; rfl⟩)
  · rintro ⟨i, s', cur⟩ nextl0 hIl0 ihl0
    try dsimp only at hIl0
    conv => whnf
    refine And.intro (fun hc0 => ?_) (fun hc0 => ?_)
    · replace hc0 := of_decide_eq_true hc0
      conv => whnf
      refine ⟨_, rnx_good _, ?_⟩
      conv => whnf
      refine And.intro (by decide) ?_
      conv => whnf
      refine And.intro (by (simp only [wrap_i64, wrap_u64, wrap_u32, wrap_u16, wrap_u8, maxLen_eq, mmI] at *; omega)) ?_
      conv => whnf
      refine And.intro (by exact rfl) ?_
      conv => whnf
      refine And.intro (by (exact (kk_b s' i (by omega) (by omega)).1)) ?_
      refine And.intro (by decide) ?_
      refine And.intro (by (have hk := kk_b s' i (by omega) (by omega); simp only [map_rows]; exact Int.lt_of_le_of_lt hk.2 (by omega))) ?_
      conv => whnf
      refine ex_row (l := cur) ?_ fun x hx => ?_
      · (have hk := kk_b s' i (by omega) (by omega); unfold kk at hk; omega)
      · conv => whnf
        refine And.intro (by omega) ?_
        refine And.intro (by decide) ?_
        refine And.intro (by (simp only [map_rows, wrap_i64, maxLen_eq] at *; omega)) ?_
        conv => whnf
        refine ex_row (l := cur) (i := 0 + Int.toNat i) ?_ fun y hy => ?_
        · omega
        · conv => whnf
          refine And.intro (by omega) ?_
          refine And.intro (by decide) ?_
          refine And.intro (by (simp only [map_rows, wrap_i64, maxLen_eq] at *; omega)) ?_
          conv => whnf
          refine ex_row_h hy ?_
          conv => whnf
          refine And.intro (by (exact (kk_b s' i (by omega) (by omega)).1)) ?_
          refine And.intro (by decide) ?_
          refine And.intro (by (have hk := kk_b s' i (by omega) (by omega); simp only [map_rows]; exact Int.lt_of_le_of_lt hk.2 (by omega))) ?_
          conv => whnf
          refine ex_row_set_h (f := fl) hx ?_
          conv => whnf
          refine ihl0 ((i - 1, nx s', swp cur (0 + i.toNat) (0 + (kk s' i).toNat) x y)) _ ?_ ?_ (st_of ?_)
          · dsimp only
            (exact ⟨by rw [swp_len]; omega, by rw [swp_len]; omega, by omega, (mixR_step (by omega) hx hy).symm.trans hIl0.2.2.2⟩)
          · dsimp only
            omega
          · conv => whnf
            refine And.intro (by with_reducible rfl) ?_
            conv => whnf
            refine And.intro (by with_reducible rfl) ?_
            conv => whnf
            refine And.intro (by with_reducible rfl) ?_
            conv => whnf
            refine And.intro (by with_reducible rfl) ?_
            refine And.intro (by with_reducible rfl) ?_
            conv => whnf
            refine And.intro (by (simp only [map_rows, wrap_i64, maxLen_eq] at *; omega)) ?_
            conv => whnf
            refine And.intro (by with_reducible rfl) ?_
            conv => whnf
            refine And.intro (by with_reducible rfl) ?_
            conv => whnf
            refine And.intro (by with_reducible rfl) ?_
            refine And.intro (by with_reducible rfl) ?_
            conv => whnf
            refine And.intro (by with_reducible rfl) ?_
            refine And.intro (by with_reducible rfl) ?_
            conv => whnf
            refine And.intro (by with_reducible rfl) ?_
            conv => whnf
            refine And.intro (by with_reducible rfl) ?_
            conv => whnf
            refine And.intro (by (exact swp_map cur _ _ x y)) ?_
            exact True.intro
    · replace hc0 := of_decide_eq_false hc0
      conv => whnf
      refine And.intro (by with_reducible rfl) ?_
      refine And.intro (by with_reducible rfl) ?_
      refine And.intro (by (simp only [map_rows, wrap_i64, maxLen_eq] at *; omega)) ?_
      refine And.intro (by (exact flat_map (by intro a c hc; simp [fl] at hc; rcases hc with rfl | rfl | rfl <;> rfl) _)) ?_
      conv => whnf
      refine AV.of_eqv ?_
      conv => whnf
      refine And.intro (by (have e : cur = mixL l s := (by have h := hIl0.2.2.2; rw [show i.toNat = 0 by omega] at h; exact h); rw [← e, List.drop_zero, List.take_of_length_le (by simp only [map_rows]; omega)])) ?_
      exact True.intro
def hi3 (s : Int) : Int := IntKind.i64.wrap ((nx s).fdiv (2 ^ (min (Int.toNat 61) IntKind.u64.bits)))
theorem hi3_b (s : Int) : 0 ≤ hi3 s ∧ hi3 s ≤ 7 := by
  have hn := nx_b s
  unfold hi3
  have e1 : (2 : Int) ^ (min (Int.toNat 61) IntKind.u64.bits) = 2305843009213693952 := by decide
  rw [e1, Int.fdiv_eq_ediv_of_nonneg _ (by omega), wrap_i64]
  omega
def losF (e : Int) : Int → List Fl → List Fl
  | _, [] => []
  | s, x :: l => if e ≤ hi3 s then x :: losF e (nx s) l else losF e (nx s) l
theorem losF_len (e : Int) : ∀ (l : List Fl) (s : Int), (losF e s l).length ≤ l.length
  | [], _ => by simp [losF]
  | x :: l, s => by
    have := losF_len e l (nx s)
    unfold losF
    split <;> simp <;> omega
theorem losF_0 (e : Int) (h : e ≤ 0) : ∀ (l : List Fl) (s : Int), losF e s l = l
  | [], _ => rfl
  | x :: l, s => by
    unfold losF
    rw [if_pos (by have := hi3_b s; omega), losF_0 e h l]
theorem losF_8 (e : Int) (h : 8 ≤ e) : ∀ (l : List Fl) (s : Int), losF e s l = []
  | [], _ => rfl
  | x :: l, s => by
    unfold losF
    rw [if_neg (by have := hi3_b s; omega), losF_8 e h l]
theorem losF_keep {e s : Int} {l : List Fl} {i : Nat} {x : Fl} {acc r : List Fl} (hx : l[i]? = some x) (h : acc ++ losF e s (l.drop i) = r) (hk : e ≤ hi3 s) : (acc ++ [x]) ++ losF e (nx s) (l.drop (i + 1)) = r := by
  have hi := lt_at hx
  rw [List.drop_eq_getElem_cons hi, show l[i] = x by rw [List.getElem?_eq_getElem hi] at hx; exact Option.some.inj hx] at h
  conv at h => lhs; arg 2; unfold losF
  rw [if_pos hk] at h
  rw [← h, List.append_assoc]; rfl
theorem losF_drop {e s : Int} {l : List Fl} {i : Nat} {x : Fl} {acc r : List Fl} (hx : l[i]? = some x) (h : acc ++ losF e s (l.drop i) = r) (hk : ¬ e ≤ hi3 s) : acc ++ losF e (nx s) (l.drop (i + 1)) = r := by
  have hi := lt_at hx
  rw [List.drop_eq_getElem_cons hi] at h
  conv at h => lhs; arg 2; unfold losF
  rw [if_neg hk] at h
  exact h
theorem los_end {e s : Int} {l : List Fl} {i : Nat} {acc r : List Fl} (hi : ¬ i < l.length) (h : acc ++ losF e s (l.drop i) = r) : acc = r := by
  rw [List.drop_of_length_le (by omega)] at h
  simpa [losF] using h
theorem lose_good (l : List Fl) (s e : Int) (hl : l.length ≤ 1000000) : Good Try.prog 71 [.sl .sh 3 (l.map fl), .int .u64 s, .int .i64 e] (.tuple [.sl .sh 3 ((losF e s l).map fl), .int .i64 ((l.length : Int) - (losF e s l).length)]) := by
  apply good_sh ak71 rfl rfl rfl
  conv => whnf
  refine loop_at (α := Nat × Int × List Fl) [] (fun ⟨i, s', acc⟩ => [(13, .int .i64 (i : Int)), (1, .int .u64 s'), (8, .sl .own 3 (acc.map fl))]) (fun ⟨i, s', acc⟩ => []) (fun ⟨i, s', acc⟩ => i ≤ l.length ∧ acc.length ≤ i ∧ acc ++ losF e s' (l.drop i) = losF e s l) (fun ⟨i, s', acc⟩ => l.length - i) ((0, s, [])) (st_of ?_) ?_ (by rintro ⟨i, s', acc⟩ _; rfl) ?_
  · conv => whnf
    refine And.intro (by with_reducible rfl) ?_
    conv => whnf
    refine And.intro (by with_reducible rfl) ?_
    conv => whnf
    refine And.intro (by with_reducible rfl) ?_
    conv => whnf
    refine And.intro (by with_reducible rfl) ?_
    conv => whnf
    refine And.intro (by with_reducible rfl) ?_
    conv => whnf
    refine And.intro (by decide) ?_
    conv => whnf
    refine And.intro (by with_reducible rfl) ?_
    conv => whnf
    refine And.intro (by with_reducible rfl) ?_
    conv => whnf
    refine And.intro (by decide) ?_
    exact True.intro
  · dsimp only
    (simp; done)
  · rintro ⟨i, s', acc⟩ nextl0 hIl0 ihl0
    try dsimp only at hIl0
    conv => whnf
    refine And.intro (fun hc0 => ?_) (fun hc0 => ?_)
    · replace hc0 := of_decide_eq_true hc0
      conv => whnf
      refine And.intro (by omega) ?_
      refine ex_row (l := l) ?_ fun x hx => ?_
      · (simp only [map_rows, wrap_i64, maxLen_eq] at *; omega)
      · simp only [toNat_ofNat] at hx
        conv => whnf
        refine ⟨_, nx_good _, ?_⟩
        conv => whnf
        refine And.intro (by decide) ?_
        conv => whnf
        refine And.intro (fun hc2 => ?_) (fun hc2 => ?_)
        · replace hc2 := of_decide_eq_true hc2
          conv => whnf
          refine And.intro (by (simp; done)) ?_
          refine And.intro (by (have := lt_at hx; simp only [map_rows, maxLen_eq, List.length_cons, List.length_nil] at *; omega)) ?_
          refine And.intro (by (have := lt_at hx; simp only [map_rows, maxLen_eq, List.length_cons, List.length_nil] at *; omega)) ?_
          conv => whnf
          refine ihl0 ((i + 1, nx s', acc ++ [x])) _ ?_ ?_ (st_of ?_)
          · dsimp only
            (have := lt_at hx; exact ⟨by omega, by simp only [List.length_append, List.length_cons, List.length_nil]; omega, losF_keep hx hIl0.2.2 (by assumption)⟩)
          · dsimp only
            (simp only [map_rows, wrap_i64, maxLen_eq] at *; omega)
          · conv => whnf
            refine And.intro (by with_reducible rfl) ?_
            conv => whnf
            refine And.intro (by with_reducible rfl) ?_
            conv => whnf
            refine And.intro (by with_reducible rfl) ?_
            conv => whnf
            refine And.intro (by with_reducible rfl) ?_
            conv => whnf
            refine And.intro (by with_reducible rfl) ?_
            conv => whnf
            refine And.intro (by (simp [fl]; done)) ?_
            conv => whnf
            refine And.intro (by with_reducible rfl) ?_
            conv => whnf
            refine And.intro (by with_reducible rfl) ?_
            conv => whnf
            refine And.intro (by (simp only [map_rows, wrap_i64, maxLen_eq] at *; omega)) ?_
            exact True.intro
        · replace hc2 := of_decide_eq_false hc2
          conv => whnf
          refine ihl0 ((i + 1, nx s', acc)) _ ?_ ?_ (st_of ?_)
          · dsimp only
            (have := lt_at hx; exact ⟨by omega, by omega, losF_drop hx hIl0.2.2 (by assumption)⟩)
          · dsimp only
            (simp only [map_rows, wrap_i64, maxLen_eq] at *; omega)
          · conv => whnf
            refine And.intro (by with_reducible rfl) ?_
            conv => whnf
            refine And.intro (by with_reducible rfl) ?_
            conv => whnf
            refine And.intro (by with_reducible rfl) ?_
            conv => whnf
            refine And.intro (by with_reducible rfl) ?_
            conv => whnf
            refine And.intro (by with_reducible rfl) ?_
            conv => whnf
            refine And.intro (by with_reducible rfl) ?_
            conv => whnf
            refine And.intro (by with_reducible rfl) ?_
            conv => whnf
            refine And.intro (by with_reducible rfl) ?_
            conv => whnf
            refine And.intro (by (simp only [map_rows, wrap_i64, maxLen_eq] at *; omega)) ?_
            exact True.intro
    · replace hc0 := of_decide_eq_false hc0
      conv => whnf
      refine AV.of_eqv ?_
      conv => whnf
      refine And.intro (by (rw [los_end (by simp only [map_rows] at *; omega) hIl0.2.2])) ?_
      conv => whnf
      refine And.intro (by (have h := los_end (by simp only [map_rows] at *; omega) hIl0.2.2; subst h; have := losF_len e l s; simp only [map_rows, wrap_i64] at *; omega)) ?_
      exact True.intro
theorem rlose_good (l : List Fl) (s e : Int) (hl : l.length ≤ 1000000) : Good Try.prog 72 [.sl .sh 3 (l.map fl), .int .u64 s, .int .i64 e] (.tuple [.sl .sh 3 ((losF e s l).map fl), .int .i64 ((l.length : Int) - (losF e s l).length)]) := by
  apply good_sh ak72 rfl rfl rfl
  conv => whnf
  refine loop_at (α := Nat × Int × List Fl) [] (fun ⟨i, s', acc⟩ => [(13, .int .i64 (i : Int)), (1, .int .u64 s'), (8, .sl .own 3 (acc.map fl))]) (fun ⟨i, s', acc⟩ => []) (fun ⟨i, s', acc⟩ => i ≤ l.length ∧ acc.length ≤ i ∧ acc ++ losF e s' (l.drop i) = losF e s l) (fun ⟨i, s', acc⟩ => l.length - i) ((0, s, [])) (st_of ?_) ?_ (by rintro ⟨i, s', acc⟩ _; rfl) ?_
  · conv => whnf
    refine And.intro (by with_reducible rfl) ?_
    conv => whnf
    refine And.intro (by with_reducible rfl) ?_
    conv => whnf
    refine And.intro (by with_reducible rfl) ?_
    conv => whnf
    refine And.intro (by with_reducible rfl) ?_
    conv => whnf
    refine And.intro (by with_reducible rfl) ?_
    conv => whnf
    refine And.intro (by decide) ?_
    conv => whnf
    refine And.intro (by with_reducible rfl) ?_
    conv => whnf
    refine And.intro (by with_reducible rfl) ?_
    conv => whnf
    refine And.intro (by decide) ?_
    exact True.intro
  · dsimp only
    (simp; done)
  · rintro ⟨i, s', acc⟩ nextl0 hIl0 ihl0
    try dsimp only at hIl0
    conv => whnf
    refine And.intro (fun hc0 => ?_) (fun hc0 => ?_)
    · replace hc0 := of_decide_eq_true hc0
      conv => whnf
      refine And.intro (by omega) ?_
      refine ex_row (l := l) ?_ fun x hx => ?_
      · (simp only [map_rows, wrap_i64, maxLen_eq] at *; omega)
      · simp only [toNat_ofNat] at hx
        conv => whnf
        refine ⟨_, rnx_good _, ?_⟩
        conv => whnf
        refine And.intro (by decide) ?_
        conv => whnf
        refine And.intro (fun hc2 => ?_) (fun hc2 => ?_)
        · replace hc2 := of_decide_eq_true hc2
          conv => whnf
          refine And.intro (by (simp; done)) ?_
          refine And.intro (by (have := lt_at hx; simp only [map_rows, maxLen_eq, List.length_cons, List.length_nil] at *; omega)) ?_
          refine And.intro (by (have := lt_at hx; simp only [map_rows, maxLen_eq, List.length_cons, List.length_nil] at *; omega)) ?_
          conv => whnf
          refine ihl0 ((i + 1, nx s', acc ++ [x])) _ ?_ ?_ (st_of ?_)
          · dsimp only
            (have := lt_at hx; exact ⟨by omega, by simp only [List.length_append, List.length_cons, List.length_nil]; omega, losF_keep hx hIl0.2.2 (by assumption)⟩)
          · dsimp only
            (simp only [map_rows, wrap_i64, maxLen_eq] at *; omega)
          · conv => whnf
            refine And.intro (by with_reducible rfl) ?_
            conv => whnf
            refine And.intro (by with_reducible rfl) ?_
            conv => whnf
            refine And.intro (by with_reducible rfl) ?_
            conv => whnf
            refine And.intro (by with_reducible rfl) ?_
            conv => whnf
            refine And.intro (by with_reducible rfl) ?_
            conv => whnf
            refine And.intro (by (simp [fl]; done)) ?_
            conv => whnf
            refine And.intro (by with_reducible rfl) ?_
            conv => whnf
            refine And.intro (by with_reducible rfl) ?_
            conv => whnf
            refine And.intro (by (simp only [map_rows, wrap_i64, maxLen_eq] at *; omega)) ?_
            exact True.intro
        · replace hc2 := of_decide_eq_false hc2
          conv => whnf
          refine ihl0 ((i + 1, nx s', acc)) _ ?_ ?_ (st_of ?_)
          · dsimp only
            (have := lt_at hx; exact ⟨by omega, by omega, losF_drop hx hIl0.2.2 (by assumption)⟩)
          · dsimp only
            (simp only [map_rows, wrap_i64, maxLen_eq] at *; omega)
          · conv => whnf
            refine And.intro (by with_reducible rfl) ?_
            conv => whnf
            refine And.intro (by with_reducible rfl) ?_
            conv => whnf
            refine And.intro (by with_reducible rfl) ?_
            conv => whnf
            refine And.intro (by with_reducible rfl) ?_
            conv => whnf
            refine And.intro (by with_reducible rfl) ?_
            conv => whnf
            refine And.intro (by with_reducible rfl) ?_
            conv => whnf
            refine And.intro (by with_reducible rfl) ?_
            conv => whnf
            refine And.intro (by with_reducible rfl) ?_
            conv => whnf
            refine And.intro (by (simp only [map_rows, wrap_i64, maxLen_eq] at *; omega)) ?_
            exact True.intro
    · replace hc0 := of_decide_eq_false hc0
      conv => whnf
      refine AV.of_eqv ?_
      conv => whnf
      refine And.intro (by (rw [los_end (by simp only [map_rows] at *; omega) hIl0.2.2])) ?_
      conv => whnf
      refine And.intro (by (have h := los_end (by simp only [map_rows] at *; omega) hIl0.2.2; subst h; have := losF_len e l s; simp only [map_rows, wrap_i64] at *; omega)) ?_
      exact True.intro
def isTo (t : Int) (x : Fl) : Bool := decide (x.2.1 = t)
def noTo (t : Int) (x : Fl) : Bool := !isTo t x
theorem split_len (t : Int) : ∀ l : List Fl, (l.filter (isTo t)).length + (l.filter (noTo t)).length = l.length
  | [] => rfl
  | x :: l => by
    have := split_len t l
    by_cases h : isTo t x = true
    · rw [List.filter_cons_of_pos h, List.filter_cons_of_neg (by simp [noTo, h])]; simp only [List.length_cons]; omega
    · rw [List.filter_cons_of_neg h, List.filter_cons_of_pos (by simp [noTo, h])]; simp only [List.length_cons]; omega
theorem split_good (l : List Fl) (t : Int) (hl : l.length ≤ 1000000) : Good Try.prog 73 [.sl .sh 3 (l.map fl), .int .i64 t] (.tuple [.sl .own 3 ((l.filter (isTo t)).map fl), .sl .own 3 ((l.filter (noTo t)).map fl)]) := by
  apply good_at ak73 rfl rfl rfl
  conv => whnf
  refine loop_at (α := Nat) [] (fun i => [(12, .int .i64 (i : Int)), (6, .sl .own 3 (((l.take i).filter (isTo t)).map fl)), (7, .sl .own 3 (((l.take i).filter (noTo t)).map fl))]) (fun i => []) (fun i => i ≤ l.length) (fun i => l.length - i) (0) (st_of ?_) ?_ (by rintro i _; rfl) ?_
  · conv => whnf
    refine And.intro (by with_reducible rfl) ?_
    conv => whnf
    refine And.intro (by with_reducible rfl) ?_
    conv => whnf
    refine And.intro (by with_reducible rfl) ?_
    conv => whnf
    refine And.intro (by with_reducible rfl) ?_
    conv => whnf
    refine And.intro (by (simp; done)) ?_
    conv => whnf
    refine And.intro (by (simp; done)) ?_
    conv => whnf
    refine And.intro (by with_reducible rfl) ?_
    conv => whnf
    refine And.intro (by with_reducible rfl) ?_
    conv => whnf
    refine And.intro (by decide) ?_
    exact True.intro
  · omega
  · rintro i nextl0 hIl0 ihl0
    try dsimp only at hIl0
    conv => whnf
    refine And.intro (fun hc0 => ?_) (fun hc0 => ?_)
    · replace hc0 := of_decide_eq_true hc0
      conv => whnf
      refine And.intro (by omega) ?_
      refine ex_row (l := l) ?_ fun x hx => ?_
      · (have h1 := flen_le l i (isTo t); have h2 := flen_le l i (noTo t); simp only [map_rows, wrap_i64, maxLen_eq, List.length_cons, List.length_nil] at *; omega)
      · simp only [toNat_ofNat] at hx
        conv => whnf
        refine And.intro (fun hc2 => ?_) (fun hc2 => ?_)
        · replace hc2 := of_decide_eq_true hc2
          conv => whnf
          refine And.intro (by (simp; done)) ?_
          refine And.intro (by (have h1 := flen_le l i (isTo t); have h2 := flen_le l i (noTo t); simp only [map_rows, wrap_i64, maxLen_eq, List.length_cons, List.length_nil] at *; omega)) ?_
          refine And.intro (by (have h1 := flen_le l i (isTo t); have h2 := flen_le l i (noTo t); simp only [map_rows, wrap_i64, maxLen_eq, List.length_cons, List.length_nil] at *; omega)) ?_
          conv => whnf
          refine ihl0 (i + 1) _ ?_ ?_ (st_of ?_)
          · (have h1 := flen_le l i (isTo t); have h2 := flen_le l i (noTo t); simp only [map_rows, wrap_i64, maxLen_eq, List.length_cons, List.length_nil] at *; omega)
          · (have h1 := flen_le l i (isTo t); have h2 := flen_le l i (noTo t); simp only [map_rows, wrap_i64, maxLen_eq, List.length_cons, List.length_nil] at *; omega)
          · conv => whnf
            refine And.intro (by with_reducible rfl) ?_
            conv => whnf
            refine And.intro (by with_reducible rfl) ?_
            conv => whnf
            refine And.intro (by with_reducible rfl) ?_
            conv => whnf
            refine And.intro (by with_reducible rfl) ?_
            conv => whnf
            refine And.intro (by (rw [filter_at _ hx, if_pos (by simp [isTo, noTo]; omega), List.map_append]; rfl)) ?_
            conv => whnf
            refine And.intro (by (rw [filter_at _ hx, if_neg (by simp [isTo, noTo]; omega), List.append_nil])) ?_
            conv => whnf
            refine And.intro (by with_reducible rfl) ?_
            conv => whnf
            refine And.intro (by with_reducible rfl) ?_
            conv => whnf
            refine And.intro (by (have h1 := flen_le l i (isTo t); have h2 := flen_le l i (noTo t); simp only [map_rows, wrap_i64, maxLen_eq, List.length_cons, List.length_nil] at *; omega)) ?_
            exact True.intro
        · replace hc2 := of_decide_eq_false hc2
          conv => whnf
          refine And.intro (by (simp; done)) ?_
          refine And.intro (by (have h1 := flen_le l i (isTo t); have h2 := flen_le l i (noTo t); simp only [map_rows, wrap_i64, maxLen_eq, List.length_cons, List.length_nil] at *; omega)) ?_
          refine And.intro (by (have h1 := flen_le l i (isTo t); have h2 := flen_le l i (noTo t); simp only [map_rows, wrap_i64, maxLen_eq, List.length_cons, List.length_nil] at *; omega)) ?_
          conv => whnf
          refine ihl0 (i + 1) _ ?_ ?_ (st_of ?_)
          · (have h1 := flen_le l i (isTo t); have h2 := flen_le l i (noTo t); simp only [map_rows, wrap_i64, maxLen_eq, List.length_cons, List.length_nil] at *; omega)
          · (have h1 := flen_le l i (isTo t); have h2 := flen_le l i (noTo t); simp only [map_rows, wrap_i64, maxLen_eq, List.length_cons, List.length_nil] at *; omega)
          · conv => whnf
            refine And.intro (by with_reducible rfl) ?_
            conv => whnf
            refine And.intro (by with_reducible rfl) ?_
            conv => whnf
            refine And.intro (by with_reducible rfl) ?_
            conv => whnf
            refine And.intro (by with_reducible rfl) ?_
            conv => whnf
            refine And.intro (by (rw [filter_at _ hx, if_neg (by simp [isTo, noTo]; omega), List.append_nil])) ?_
            conv => whnf
            refine And.intro (by (rw [filter_at _ hx, if_pos (by simp [isTo, noTo]; omega), List.map_append]; rfl)) ?_
            conv => whnf
            refine And.intro (by with_reducible rfl) ?_
            conv => whnf
            refine And.intro (by with_reducible rfl) ?_
            conv => whnf
            refine And.intro (by (have h1 := flen_le l i (isTo t); have h2 := flen_le l i (noTo t); simp only [map_rows, wrap_i64, maxLen_eq, List.length_cons, List.length_nil] at *; omega)) ?_
            exact True.intro
    · replace hc0 := of_decide_eq_false hc0
      conv => whnf
      refine AV.of_eqv ?_
      conv => whnf
      refine And.intro (by (rw [take_end (by simp only [map_rows] at *; omega)])) ?_
      conv => whnf
      refine And.intro (by (rw [take_end (by simp only [map_rows] at *; omega)])) ?_
      exact True.intro
theorem rsplit_good (l : List Fl) (t : Int) (hl : l.length ≤ 1000000) : Good Try.prog 74 [.sl .sh 3 (l.map fl), .int .i64 t] (.tuple [.sl .own 3 ((l.filter (isTo t)).map fl), .sl .own 3 ((l.filter (noTo t)).map fl)]) := by
  apply good_at ak74 rfl rfl rfl
  conv => whnf
  refine loop_at (α := Nat) [] (fun i => [(12, .int .i64 (i : Int)), (6, .sl .own 3 (((l.take i).filter (isTo t)).map fl)), (7, .sl .own 3 (((l.take i).filter (noTo t)).map fl))]) (fun i => []) (fun i => i ≤ l.length) (fun i => l.length - i) (0) (st_of ?_) ?_ (by rintro i _; rfl) ?_
  · conv => whnf
    refine And.intro (by with_reducible rfl) ?_
    conv => whnf
    refine And.intro (by with_reducible rfl) ?_
    conv => whnf
    refine And.intro (by with_reducible rfl) ?_
    conv => whnf
    refine And.intro (by with_reducible rfl) ?_
    conv => whnf
    refine And.intro (by (simp; done)) ?_
    conv => whnf
    refine And.intro (by (simp; done)) ?_
    conv => whnf
    refine And.intro (by with_reducible rfl) ?_
    conv => whnf
    refine And.intro (by with_reducible rfl) ?_
    conv => whnf
    refine And.intro (by decide) ?_
    exact True.intro
  · omega
  · rintro i nextl0 hIl0 ihl0
    try dsimp only at hIl0
    conv => whnf
    refine And.intro (fun hc0 => ?_) (fun hc0 => ?_)
    · replace hc0 := of_decide_eq_true hc0
      conv => whnf
      refine And.intro (by omega) ?_
      refine ex_row (l := l) ?_ fun x hx => ?_
      · (have h1 := flen_le l i (isTo t); have h2 := flen_le l i (noTo t); simp only [map_rows, wrap_i64, maxLen_eq, List.length_cons, List.length_nil] at *; omega)
      · simp only [toNat_ofNat] at hx
        conv => whnf
        refine And.intro (fun hc2 => ?_) (fun hc2 => ?_)
        · replace hc2 := of_decide_eq_true hc2
          conv => whnf
          refine And.intro (by (simp; done)) ?_
          refine And.intro (by (have h1 := flen_le l i (isTo t); have h2 := flen_le l i (noTo t); simp only [map_rows, wrap_i64, maxLen_eq, List.length_cons, List.length_nil] at *; omega)) ?_
          refine And.intro (by (have h1 := flen_le l i (isTo t); have h2 := flen_le l i (noTo t); simp only [map_rows, wrap_i64, maxLen_eq, List.length_cons, List.length_nil] at *; omega)) ?_
          conv => whnf
          refine ihl0 (i + 1) _ ?_ ?_ (st_of ?_)
          · (have h1 := flen_le l i (isTo t); have h2 := flen_le l i (noTo t); simp only [map_rows, wrap_i64, maxLen_eq, List.length_cons, List.length_nil] at *; omega)
          · (have h1 := flen_le l i (isTo t); have h2 := flen_le l i (noTo t); simp only [map_rows, wrap_i64, maxLen_eq, List.length_cons, List.length_nil] at *; omega)
          · conv => whnf
            refine And.intro (by with_reducible rfl) ?_
            conv => whnf
            refine And.intro (by with_reducible rfl) ?_
            conv => whnf
            refine And.intro (by with_reducible rfl) ?_
            conv => whnf
            refine And.intro (by with_reducible rfl) ?_
            conv => whnf
            refine And.intro (by (rw [filter_at _ hx, if_pos (by simp [isTo, noTo]; omega), List.map_append]; rfl)) ?_
            conv => whnf
            refine And.intro (by (rw [filter_at _ hx, if_neg (by simp [isTo, noTo]; omega), List.append_nil])) ?_
            conv => whnf
            refine And.intro (by with_reducible rfl) ?_
            conv => whnf
            refine And.intro (by with_reducible rfl) ?_
            conv => whnf
            refine And.intro (by (have h1 := flen_le l i (isTo t); have h2 := flen_le l i (noTo t); simp only [map_rows, wrap_i64, maxLen_eq, List.length_cons, List.length_nil] at *; omega)) ?_
            exact True.intro
        · replace hc2 := of_decide_eq_false hc2
          conv => whnf
          refine And.intro (by (simp; done)) ?_
          refine And.intro (by (have h1 := flen_le l i (isTo t); have h2 := flen_le l i (noTo t); simp only [map_rows, wrap_i64, maxLen_eq, List.length_cons, List.length_nil] at *; omega)) ?_
          refine And.intro (by (have h1 := flen_le l i (isTo t); have h2 := flen_le l i (noTo t); simp only [map_rows, wrap_i64, maxLen_eq, List.length_cons, List.length_nil] at *; omega)) ?_
          conv => whnf
          refine ihl0 (i + 1) _ ?_ ?_ (st_of ?_)
          · (have h1 := flen_le l i (isTo t); have h2 := flen_le l i (noTo t); simp only [map_rows, wrap_i64, maxLen_eq, List.length_cons, List.length_nil] at *; omega)
          · (have h1 := flen_le l i (isTo t); have h2 := flen_le l i (noTo t); simp only [map_rows, wrap_i64, maxLen_eq, List.length_cons, List.length_nil] at *; omega)
          · conv => whnf
            refine And.intro (by with_reducible rfl) ?_
            conv => whnf
            refine And.intro (by with_reducible rfl) ?_
            conv => whnf
            refine And.intro (by with_reducible rfl) ?_
            conv => whnf
            refine And.intro (by with_reducible rfl) ?_
            conv => whnf
            refine And.intro (by (rw [filter_at _ hx, if_neg (by simp [isTo, noTo]; omega), List.append_nil])) ?_
            conv => whnf
            refine And.intro (by (rw [filter_at _ hx, if_pos (by simp [isTo, noTo]; omega), List.map_append]; rfl)) ?_
            conv => whnf
            refine And.intro (by with_reducible rfl) ?_
            conv => whnf
            refine And.intro (by with_reducible rfl) ?_
            conv => whnf
            refine And.intro (by (have h1 := flen_le l i (isTo t); have h2 := flen_le l i (noTo t); simp only [map_rows, wrap_i64, maxLen_eq, List.length_cons, List.length_nil] at *; omega)) ?_
            exact True.intro
    · replace hc0 := of_decide_eq_false hc0
      conv => whnf
      refine AV.of_eqv ?_
      conv => whnf
      refine And.intro (by (rw [take_end (by simp only [map_rows] at *; omega)])) ?_
      conv => whnf
      refine And.intro (by (rw [take_end (by simp only [map_rows] at *; omega)])) ?_
      exact True.intro
theorem swp_perm {l : List Fl} {i k : Nat} {x y : Fl} (hx : l[k]? = some x) (hy : l[i]? = some y) : (swp l i k x y).Perm l := by
  have hi := lt_at hy
  have hk := lt_at hx
  rw [List.getElem?_eq_getElem hk] at hx
  rw [List.getElem?_eq_getElem hi] at hy
  obtain rfl := Option.some.inj hx
  obtain rfl := Option.some.inj hy
  exact List.set_set_perm hi hk
theorem mixR_perm : ∀ (m : Nat) (s : Int) (l : List Fl), (mixR m s l).Perm l
  | 0, _, l => .refl l
  | m + 1, s, l => by
    unfold mixR
    split
    · rename_i x y hx hy
      exact (mixR_perm m _ _).trans (swp_perm hx hy)
    · exact .refl l
theorem mixL_len (l : List Fl) (s : Int) : (mixL l s).length = l.length := (mixR_perm _ s l).length_eq
theorem mixL_cnt (l : List Fl) (s : Int) (p : Fl → Bool) : ((mixL l s).filter p).length = (l.filter p).length := ((mixR_perm _ s l).filter p).length_eq
def eqFl (x y : Fl) : Bool := decide (y.1 = x.1 ∧ y.2.1 = x.2.1 ∧ y.2.2 = x.2.2)
theorem airMixes_good (l : List Fl) (s a b : Int) : Good Try.prog 12 [.sl .sh 3 (l.map fl), .int .u64 s, .agg [.int .i64 a, .int .i64 b]] (.bool true) := by
  have hml := mixL_len l s
  apply good_at ak12 rfl rfl rfl
  conv => whnf
  refine And.intro (fun hc0 => ?_) (fun hc0 => ?_)
  · replace hc0 := of_decide_eq_true hc0
    conv => whnf
    refine ⟨_, awake40_good, ?_⟩
    conv => whnf
    refine AV.of_eqv ?_
    conv => whnf
    refine And.intro (by with_reducible rfl) ?_
    exact True.intro
  · replace hc0 := of_decide_eq_false hc0
    conv => whnf
    refine ⟨_, mix_good _ _ ?_, ?_⟩
    · (simp only [map_rows] at *; omega)
    · conv => whnf
      refine ⟨_, rmix_good _ _ ?_, ?_⟩
      · (simp only [map_rows] at *; omega)
      · conv => whnf
        refine And.intro (by decide) ?_
        refine And.intro (by decide) ?_
        conv => whnf
        refine ⟨_, lose_good _ _ _ ?_, ?_⟩
        · (simp only [map_rows] at *; omega)
        · conv => whnf
          refine And.intro (by decide) ?_
          refine And.intro (by decide) ?_
          conv => whnf
          refine ⟨_, rlose_good _ _ _ ?_, ?_⟩
          · (simp only [map_rows] at *; omega)
          · conv => whnf
            refine And.intro (by decide) ?_
            refine And.intro (by decide) ?_
            conv => whnf
            refine ⟨_, split_good _ _ ?_, ?_⟩
            · (simp only [map_rows] at *; omega)
            · conv => whnf
              refine And.intro (by decide) ?_
              refine And.intro (by decide) ?_
              conv => whnf
              refine ⟨_, rsplit_good _ _ ?_, ?_⟩
              · (simp only [map_rows] at *; omega)
              · conv => whnf
                refine ⟨_, same_good _ _ ?_ ?_, ?_⟩
                · (simp only [map_rows] at *; omega)
                · (simp only [map_rows] at *; omega)
                · conv => whnf
                  refine And.intro (fun hc1 => ?_) (fun hc1 => ?_)
                  · replace hc1 := of_decide_eq_true (Bool.not_eq_false' _ |>.mp hc1)
                    conv => whnf
                    refine br_l rfl rfl ?_
                    conv => whnf
                    refine br_l rfl rfl ?_
                    conv => whnf
                    refine ⟨_, same_good _ _ ?_ ?_, ?_⟩
                    · (have := losF_len a l s; simp only [map_rows] at *; omega)
                    · (have := losF_len a l s; simp only [map_rows] at *; omega)
                    · conv => whnf
                      refine br_l rfl rfl ?_
                      conv => whnf
                      refine br_r rfl rfl ?_
                      conv => whnf
                      refine And.intro (fun hc2 => ?_) (fun hc2 => ?_)
                      · replace hc2 := of_decide_eq_true (Bool.not_eq_false' _ |>.mp hc2)
                        conv => whnf
                        refine br_l rfl rfl ?_
                        conv => whnf
                        refine br_l rfl rfl ?_
                        conv => whnf
                        refine br_r rfl rfl ?_
                        conv => whnf
                        refine And.intro (fun hc3 => ?_) (fun hc3 => ?_)
                        · replace hc3 := of_decide_eq_true (Bool.not_eq_false' _ |>.mp hc3)
                          conv => whnf
                          refine br_l rfl rfl ?_
                          conv => whnf
                          refine br_l rfl rfl ?_
                          conv => whnf
                          refine ⟨_, same_good _ _ ?_ ?_, ?_⟩
                          · (exact Nat.le_trans (List.length_filter_le _ _) (by simp only [map_rows] at *; omega))
                          · (exact Nat.le_trans (List.length_filter_le _ _) (by simp only [map_rows] at *; omega))
                          · conv => whnf
                            refine br_l rfl rfl ?_
                            conv => whnf
                            refine br_r rfl rfl ?_
                            conv => whnf
                            refine And.intro (fun hc4 => ?_) (fun hc4 => ?_)
                            · replace hc4 := of_decide_eq_true (Bool.not_eq_false' _ |>.mp hc4)
                              conv => whnf
                              refine br_l rfl rfl ?_
                              conv => whnf
                              refine br_l rfl rfl ?_
                              conv => whnf
                              refine ⟨_, same_good _ _ ?_ ?_, ?_⟩
                              · (exact Nat.le_trans (List.length_filter_le _ _) (by simp only [map_rows] at *; omega))
                              · (exact Nat.le_trans (List.length_filter_le _ _) (by simp only [map_rows] at *; omega))
                              · conv => whnf
                                refine br_l rfl rfl ?_
                                conv => whnf
                                refine br_r rfl rfl ?_
                                conv => whnf
                                refine And.intro (fun hc5 => ?_) (fun hc5 => ?_)
                                · replace hc5 := of_decide_eq_true (Bool.not_eq_false' _ |>.mp hc5)
                                  conv => whnf
                                  refine br_l rfl rfl ?_
                                  conv => whnf
                                  refine br_l rfl rfl ?_
                                  conv => whnf
                                  refine br_l rfl rfl ?_
                                  conv => whnf
                                  refine br_l rfl rfl ?_
                                  conv => whnf
                                  refine br_l rfl rfl ?_
                                  conv => whnf
                                  refine br_l rfl rfl ?_
                                  conv => whnf
                                  refine br_l rfl rfl ?_
                                  conv => whnf
                                  refine br_r rfl rfl ?_
                                  conv => whnf
                                  refine And.intro (fun hc6 => ?_) (fun hc6 => ?_)
                                  · replace hc6 := of_decide_eq_true (Bool.not_eq_false' _ |>.mp hc6)
                                    conv => whnf
                                    refine br_l rfl rfl ?_
                                    conv => whnf
                                    refine br_l rfl rfl ?_
                                    conv => whnf
                                    refine br_l rfl rfl ?_
                                    conv => whnf
                                    refine br_l rfl rfl ?_
                                    conv => whnf
                                    refine br_l rfl rfl ?_
                                    conv => whnf
                                    refine br_l rfl rfl ?_
                                    conv => whnf
                                    refine br_r rfl rfl ?_
                                    conv => whnf
                                    refine And.intro (fun hc7 => ?_) (fun hc7 => ?_)
                                    · replace hc7 := of_decide_eq_false (Bool.not_eq_true' _ |>.mp hc7)
                                      (exfalso; have := split_len b l; have := losF_len a l s; simp only [map_rows, wrap_i64] at *; omega)
                                    · replace hc7 := of_decide_eq_true (Bool.not_eq_false' _ |>.mp hc7)
                                      conv => whnf
                                      refine loop_at (α := Nat) [] (fun i => [(114, .int .i64 (i : Int))]) (fun i => []) (fun i => i ≤ l.length) (fun i => l.length - i) (0) (st_of ?_) ?_ (by rintro i _; rfl) ?_
                                      · conv => whnf
                                        refine And.intro (by with_reducible rfl) ?_
                                        conv => whnf
                                        refine And.intro (by with_reducible rfl) ?_
                                        conv => whnf
                                        refine And.intro (by with_reducible rfl) ?_
                                        conv => whnf
                                        refine And.intro (by with_reducible rfl) ?_
                                        conv => whnf
                                        refine And.intro (by with_reducible rfl) ?_
                                        refine And.intro (by with_reducible rfl) ?_
                                        conv => whnf
                                        refine And.intro (by with_reducible rfl) ?_
                                        conv => whnf
                                        refine And.intro (by with_reducible rfl) ?_
                                        conv => whnf
                                        refine And.intro (by with_reducible rfl) ?_
                                        conv => whnf
                                        refine And.intro (by with_reducible rfl) ?_
                                        conv => whnf
                                        refine And.intro (by with_reducible rfl) ?_
                                        conv => whnf
                                        refine And.intro (by with_reducible rfl) ?_
                                        conv => whnf
                                        refine And.intro (by with_reducible rfl) ?_
                                        conv => whnf
                                        refine And.intro (by with_reducible rfl) ?_
                                        conv => whnf
                                        refine And.intro (by with_reducible rfl) ?_
                                        conv => whnf
                                        refine And.intro (by with_reducible rfl) ?_
                                        conv => whnf
                                        refine And.intro (by with_reducible rfl) ?_
                                        conv => whnf
                                        refine And.intro (by with_reducible rfl) ?_
                                        conv => whnf
                                        refine And.intro (by with_reducible rfl) ?_
                                        conv => whnf
                                        refine And.intro (by with_reducible rfl) ?_
                                        conv => whnf
                                        refine And.intro (by with_reducible rfl) ?_
                                        conv => whnf
                                        refine And.intro (by with_reducible rfl) ?_
                                        conv => whnf
                                        refine And.intro (by with_reducible rfl) ?_
                                        conv => whnf
                                        refine And.intro (by with_reducible rfl) ?_
                                        conv => whnf
                                        refine And.intro (by with_reducible rfl) ?_
                                        conv => whnf
                                        refine And.intro (by with_reducible rfl) ?_
                                        conv => whnf
                                        refine And.intro (by with_reducible rfl) ?_
                                        conv => whnf
                                        refine And.intro (by with_reducible rfl) ?_
                                        conv => whnf
                                        refine And.intro (by with_reducible rfl) ?_
                                        conv => whnf
                                        refine And.intro (by with_reducible rfl) ?_
                                        refine And.intro (by with_reducible rfl) ?_
                                        conv => whnf
                                        refine And.intro (by with_reducible rfl) ?_
                                        conv => whnf
                                        refine And.intro (by with_reducible rfl) ?_
                                        conv => whnf
                                        refine And.intro (by with_reducible rfl) ?_
                                        conv => whnf
                                        refine And.intro (by with_reducible rfl) ?_
                                        conv => whnf
                                        refine And.intro (by with_reducible rfl) ?_
                                        conv => whnf
                                        refine And.intro (by with_reducible rfl) ?_
                                        conv => whnf
                                        refine And.intro (by with_reducible rfl) ?_
                                        conv => whnf
                                        refine And.intro (by with_reducible rfl) ?_
                                        conv => whnf
                                        refine And.intro (by with_reducible rfl) ?_
                                        conv => whnf
                                        refine And.intro (by with_reducible rfl) ?_
                                        refine And.intro (by with_reducible rfl) ?_
                                        conv => whnf
                                        refine And.intro (by with_reducible rfl) ?_
                                        conv => whnf
                                        refine And.intro (by with_reducible rfl) ?_
                                        conv => whnf
                                        refine And.intro (by with_reducible rfl) ?_
                                        conv => whnf
                                        refine And.intro (by with_reducible rfl) ?_
                                        conv => whnf
                                        refine And.intro (by with_reducible rfl) ?_
                                        conv => whnf
                                        refine And.intro (by with_reducible rfl) ?_
                                        conv => whnf
                                        refine And.intro (by with_reducible rfl) ?_
                                        conv => whnf
                                        refine And.intro (by with_reducible rfl) ?_
                                        conv => whnf
                                        refine And.intro (by with_reducible rfl) ?_
                                        refine And.intro (by with_reducible rfl) ?_
                                        conv => whnf
                                        refine And.intro (by with_reducible rfl) ?_
                                        conv => whnf
                                        refine And.intro (by with_reducible rfl) ?_
                                        conv => whnf
                                        refine And.intro (by with_reducible rfl) ?_
                                        conv => whnf
                                        refine And.intro (by with_reducible rfl) ?_
                                        conv => whnf
                                        refine And.intro (by with_reducible rfl) ?_
                                        conv => whnf
                                        refine And.intro (by with_reducible rfl) ?_
                                        conv => whnf
                                        refine And.intro (by with_reducible rfl) ?_
                                        conv => whnf
                                        refine And.intro (by with_reducible rfl) ?_
                                        conv => whnf
                                        refine And.intro (by with_reducible rfl) ?_
                                        refine And.intro (by with_reducible rfl) ?_
                                        conv => whnf
                                        refine And.intro (by with_reducible rfl) ?_
                                        conv => whnf
                                        refine And.intro (by with_reducible rfl) ?_
                                        conv => whnf
                                        refine And.intro (by with_reducible rfl) ?_
                                        conv => whnf
                                        refine And.intro (by with_reducible rfl) ?_
                                        conv => whnf
                                        refine And.intro (by with_reducible rfl) ?_
                                        conv => whnf
                                        refine And.intro (by with_reducible rfl) ?_
                                        conv => whnf
                                        refine And.intro (by with_reducible rfl) ?_
                                        conv => whnf
                                        refine And.intro (by with_reducible rfl) ?_
                                        conv => whnf
                                        refine And.intro (by with_reducible rfl) ?_
                                        conv => whnf
                                        refine And.intro (by with_reducible rfl) ?_
                                        conv => whnf
                                        refine And.intro (by with_reducible rfl) ?_
                                        conv => whnf
                                        refine And.intro (by with_reducible rfl) ?_
                                        conv => whnf
                                        refine And.intro (by with_reducible rfl) ?_
                                        conv => whnf
                                        refine And.intro (by with_reducible rfl) ?_
                                        conv => whnf
                                        refine And.intro (by with_reducible rfl) ?_
                                        conv => whnf
                                        refine And.intro (by with_reducible rfl) ?_
                                        conv => whnf
                                        refine And.intro (by with_reducible rfl) ?_
                                        conv => whnf
                                        refine And.intro (by with_reducible rfl) ?_
                                        conv => whnf
                                        refine And.intro (by with_reducible rfl) ?_
                                        conv => whnf
                                        refine And.intro (by with_reducible rfl) ?_
                                        conv => whnf
                                        refine And.intro (by with_reducible rfl) ?_
                                        conv => whnf
                                        refine And.intro (by with_reducible rfl) ?_
                                        conv => whnf
                                        refine And.intro (by with_reducible rfl) ?_
                                        conv => whnf
                                        refine And.intro (by with_reducible rfl) ?_
                                        conv => whnf
                                        refine And.intro (by with_reducible rfl) ?_
                                        conv => whnf
                                        refine And.intro (by with_reducible rfl) ?_
                                        conv => whnf
                                        refine And.intro (by with_reducible rfl) ?_
                                        conv => whnf
                                        refine And.intro (by with_reducible rfl) ?_
                                        conv => whnf
                                        refine And.intro (by with_reducible rfl) ?_
                                        conv => whnf
                                        refine And.intro (by with_reducible rfl) ?_
                                        conv => whnf
                                        refine And.intro (by with_reducible rfl) ?_
                                        conv => whnf
                                        refine And.intro (by with_reducible rfl) ?_
                                        conv => whnf
                                        refine And.intro (by with_reducible rfl) ?_
                                        conv => whnf
                                        refine And.intro (by with_reducible rfl) ?_
                                        conv => whnf
                                        refine And.intro (by with_reducible rfl) ?_
                                        conv => whnf
                                        refine And.intro (by with_reducible rfl) ?_
                                        conv => whnf
                                        refine And.intro (by with_reducible rfl) ?_
                                        conv => whnf
                                        refine And.intro (by with_reducible rfl) ?_
                                        conv => whnf
                                        refine And.intro (by with_reducible rfl) ?_
                                        conv => whnf
                                        refine And.intro (by with_reducible rfl) ?_
                                        conv => whnf
                                        refine And.intro (by with_reducible rfl) ?_
                                        conv => whnf
                                        refine And.intro (by with_reducible rfl) ?_
                                        conv => whnf
                                        refine And.intro (by with_reducible rfl) ?_
                                        conv => whnf
                                        refine And.intro (by with_reducible rfl) ?_
                                        conv => whnf
                                        refine And.intro (by with_reducible rfl) ?_
                                        conv => whnf
                                        refine And.intro (by with_reducible rfl) ?_
                                        conv => whnf
                                        refine And.intro (by with_reducible rfl) ?_
                                        conv => whnf
                                        refine And.intro (by with_reducible rfl) ?_
                                        conv => whnf
                                        refine And.intro (by with_reducible rfl) ?_
                                        conv => whnf
                                        refine And.intro (by with_reducible rfl) ?_
                                        conv => whnf
                                        refine And.intro (by with_reducible rfl) ?_
                                        conv => whnf
                                        refine And.intro (by with_reducible rfl) ?_
                                        conv => whnf
                                        refine And.intro (by with_reducible rfl) ?_
                                        conv => whnf
                                        refine And.intro (by decide) ?_
                                        conv => whnf
                                        refine And.intro (by with_reducible rfl) ?_
                                        conv => whnf
                                        refine And.intro (by with_reducible rfl) ?_
                                        exact True.intro
                                      · omega
                                      · rintro i nextl0 hIl0 ihl0
                                        try dsimp only at hIl0
                                        conv => whnf
                                        refine And.intro (fun hc8 => ?_) (fun hc8 => ?_)
                                        · replace hc8 := of_decide_eq_true hc8
                                          conv => whnf
                                          refine And.intro (by omega) ?_
                                          refine ex_row (l := l) ?_ fun x hx => ?_
                                          · (simp only [map_rows] at *; omega)
                                          · simp only [toNat_ofNat] at hx
                                            conv => whnf
                                            refine loop_at (α := Nat) [] (fun j => [(120, .int .i64 (j : Int)), (19, .int .i64 ((((l.take j).filter (eqFl x)).length : Nat) : Int)), (20, .int .i64 (((((mixL l s).take j).filter (eqFl x)).length : Nat) : Int))]) (fun j => []) (fun j => j ≤ l.length) (fun j => l.length - j) (0) (st_of ?_) ?_ (by rintro j _; rfl) ?_
                                            · conv => whnf
                                              refine And.intro (by with_reducible rfl) ?_
                                              conv => whnf
                                              refine And.intro (by with_reducible rfl) ?_
                                              conv => whnf
                                              refine And.intro (by with_reducible rfl) ?_
                                              conv => whnf
                                              refine And.intro (by with_reducible rfl) ?_
                                              conv => whnf
                                              refine And.intro (by with_reducible rfl) ?_
                                              refine And.intro (by with_reducible rfl) ?_
                                              conv => whnf
                                              refine And.intro (by with_reducible rfl) ?_
                                              conv => whnf
                                              refine And.intro (by with_reducible rfl) ?_
                                              conv => whnf
                                              refine And.intro (by with_reducible rfl) ?_
                                              conv => whnf
                                              refine And.intro (by with_reducible rfl) ?_
                                              conv => whnf
                                              refine And.intro (by with_reducible rfl) ?_
                                              conv => whnf
                                              refine And.intro (by with_reducible rfl) ?_
                                              conv => whnf
                                              refine And.intro (by with_reducible rfl) ?_
                                              conv => whnf
                                              refine And.intro (by with_reducible rfl) ?_
                                              conv => whnf
                                              refine And.intro (by with_reducible rfl) ?_
                                              conv => whnf
                                              refine And.intro (by with_reducible rfl) ?_
                                              conv => whnf
                                              refine And.intro (by with_reducible rfl) ?_
                                              refine And.intro (by with_reducible rfl) ?_
                                              conv => whnf
                                              refine And.intro (by (simp; done)) ?_
                                              conv => whnf
                                              refine And.intro (by (simp; done)) ?_
                                              conv => whnf
                                              refine And.intro (by with_reducible rfl) ?_
                                              conv => whnf
                                              refine And.intro (by with_reducible rfl) ?_
                                              conv => whnf
                                              refine And.intro (by with_reducible rfl) ?_
                                              conv => whnf
                                              refine And.intro (by with_reducible rfl) ?_
                                              conv => whnf
                                              refine And.intro (by with_reducible rfl) ?_
                                              conv => whnf
                                              refine And.intro (by with_reducible rfl) ?_
                                              conv => whnf
                                              refine And.intro (by with_reducible rfl) ?_
                                              conv => whnf
                                              refine And.intro (by with_reducible rfl) ?_
                                              conv => whnf
                                              refine And.intro (by with_reducible rfl) ?_
                                              conv => whnf
                                              refine And.intro (by with_reducible rfl) ?_
                                              conv => whnf
                                              refine And.intro (by with_reducible rfl) ?_
                                              conv => whnf
                                              refine And.intro (by with_reducible rfl) ?_
                                              conv => whnf
                                              refine And.intro (by with_reducible rfl) ?_
                                              conv => whnf
                                              refine And.intro (by with_reducible rfl) ?_
                                              refine And.intro (by with_reducible rfl) ?_
                                              conv => whnf
                                              refine And.intro (by with_reducible rfl) ?_
                                              conv => whnf
                                              refine And.intro (by with_reducible rfl) ?_
                                              conv => whnf
                                              refine And.intro (by with_reducible rfl) ?_
                                              conv => whnf
                                              refine And.intro (by with_reducible rfl) ?_
                                              conv => whnf
                                              refine And.intro (by with_reducible rfl) ?_
                                              conv => whnf
                                              refine And.intro (by with_reducible rfl) ?_
                                              conv => whnf
                                              refine And.intro (by with_reducible rfl) ?_
                                              conv => whnf
                                              refine And.intro (by with_reducible rfl) ?_
                                              conv => whnf
                                              refine And.intro (by with_reducible rfl) ?_
                                              conv => whnf
                                              refine And.intro (by with_reducible rfl) ?_
                                              refine And.intro (by with_reducible rfl) ?_
                                              conv => whnf
                                              refine And.intro (by with_reducible rfl) ?_
                                              conv => whnf
                                              refine And.intro (by with_reducible rfl) ?_
                                              conv => whnf
                                              refine And.intro (by with_reducible rfl) ?_
                                              conv => whnf
                                              refine And.intro (by with_reducible rfl) ?_
                                              conv => whnf
                                              refine And.intro (by with_reducible rfl) ?_
                                              conv => whnf
                                              refine And.intro (by with_reducible rfl) ?_
                                              conv => whnf
                                              refine And.intro (by with_reducible rfl) ?_
                                              conv => whnf
                                              refine And.intro (by with_reducible rfl) ?_
                                              conv => whnf
                                              refine And.intro (by with_reducible rfl) ?_
                                              refine And.intro (by with_reducible rfl) ?_
                                              conv => whnf
                                              refine And.intro (by with_reducible rfl) ?_
                                              conv => whnf
                                              refine And.intro (by with_reducible rfl) ?_
                                              conv => whnf
                                              refine And.intro (by with_reducible rfl) ?_
                                              conv => whnf
                                              refine And.intro (by with_reducible rfl) ?_
                                              conv => whnf
                                              refine And.intro (by with_reducible rfl) ?_
                                              conv => whnf
                                              refine And.intro (by with_reducible rfl) ?_
                                              conv => whnf
                                              refine And.intro (by with_reducible rfl) ?_
                                              conv => whnf
                                              refine And.intro (by with_reducible rfl) ?_
                                              conv => whnf
                                              refine And.intro (by with_reducible rfl) ?_
                                              refine And.intro (by with_reducible rfl) ?_
                                              conv => whnf
                                              refine And.intro (by with_reducible rfl) ?_
                                              conv => whnf
                                              refine And.intro (by with_reducible rfl) ?_
                                              conv => whnf
                                              refine And.intro (by with_reducible rfl) ?_
                                              conv => whnf
                                              refine And.intro (by with_reducible rfl) ?_
                                              conv => whnf
                                              refine And.intro (by with_reducible rfl) ?_
                                              conv => whnf
                                              refine And.intro (by with_reducible rfl) ?_
                                              conv => whnf
                                              refine And.intro (by with_reducible rfl) ?_
                                              conv => whnf
                                              refine And.intro (by with_reducible rfl) ?_
                                              conv => whnf
                                              refine And.intro (by with_reducible rfl) ?_
                                              conv => whnf
                                              refine And.intro (by with_reducible rfl) ?_
                                              conv => whnf
                                              refine And.intro (by with_reducible rfl) ?_
                                              conv => whnf
                                              refine And.intro (by with_reducible rfl) ?_
                                              conv => whnf
                                              refine And.intro (by with_reducible rfl) ?_
                                              conv => whnf
                                              refine And.intro (by with_reducible rfl) ?_
                                              conv => whnf
                                              refine And.intro (by with_reducible rfl) ?_
                                              conv => whnf
                                              refine And.intro (by with_reducible rfl) ?_
                                              conv => whnf
                                              refine And.intro (by with_reducible rfl) ?_
                                              conv => whnf
                                              refine And.intro (by with_reducible rfl) ?_
                                              conv => whnf
                                              refine And.intro (by with_reducible rfl) ?_
                                              conv => whnf
                                              refine And.intro (by with_reducible rfl) ?_
                                              conv => whnf
                                              refine And.intro (by with_reducible rfl) ?_
                                              conv => whnf
                                              refine And.intro (by with_reducible rfl) ?_
                                              conv => whnf
                                              refine And.intro (by with_reducible rfl) ?_
                                              conv => whnf
                                              refine And.intro (by with_reducible rfl) ?_
                                              conv => whnf
                                              refine And.intro (by with_reducible rfl) ?_
                                              conv => whnf
                                              refine And.intro (by with_reducible rfl) ?_
                                              conv => whnf
                                              refine And.intro (by with_reducible rfl) ?_
                                              conv => whnf
                                              refine And.intro (by with_reducible rfl) ?_
                                              conv => whnf
                                              refine And.intro (by with_reducible rfl) ?_
                                              conv => whnf
                                              refine And.intro (by with_reducible rfl) ?_
                                              conv => whnf
                                              refine And.intro (by with_reducible rfl) ?_
                                              conv => whnf
                                              refine And.intro (by with_reducible rfl) ?_
                                              conv => whnf
                                              refine And.intro (by with_reducible rfl) ?_
                                              conv => whnf
                                              refine And.intro (by with_reducible rfl) ?_
                                              conv => whnf
                                              refine And.intro (by with_reducible rfl) ?_
                                              conv => whnf
                                              refine And.intro (by with_reducible rfl) ?_
                                              conv => whnf
                                              refine And.intro (by with_reducible rfl) ?_
                                              conv => whnf
                                              refine And.intro (by with_reducible rfl) ?_
                                              conv => whnf
                                              refine And.intro (by with_reducible rfl) ?_
                                              conv => whnf
                                              refine And.intro (by with_reducible rfl) ?_
                                              conv => whnf
                                              refine And.intro (by with_reducible rfl) ?_
                                              conv => whnf
                                              refine And.intro (by with_reducible rfl) ?_
                                              conv => whnf
                                              refine And.intro (by with_reducible rfl) ?_
                                              conv => whnf
                                              refine And.intro (by with_reducible rfl) ?_
                                              conv => whnf
                                              refine And.intro (by with_reducible rfl) ?_
                                              conv => whnf
                                              refine And.intro (by with_reducible rfl) ?_
                                              conv => whnf
                                              refine And.intro (by with_reducible rfl) ?_
                                              conv => whnf
                                              refine And.intro (by with_reducible rfl) ?_
                                              conv => whnf
                                              refine And.intro (by with_reducible rfl) ?_
                                              conv => whnf
                                              refine And.intro (by with_reducible rfl) ?_
                                              conv => whnf
                                              refine And.intro (by with_reducible rfl) ?_
                                              conv => whnf
                                              refine And.intro (by with_reducible rfl) ?_
                                              conv => whnf
                                              refine And.intro (by with_reducible rfl) ?_
                                              conv => whnf
                                              refine And.intro (by with_reducible rfl) ?_
                                              conv => whnf
                                              refine And.intro (by with_reducible rfl) ?_
                                              conv => whnf
                                              refine And.intro (by with_reducible rfl) ?_
                                              conv => whnf
                                              refine And.intro (by with_reducible rfl) ?_
                                              conv => whnf
                                              refine And.intro (by with_reducible rfl) ?_
                                              conv => whnf
                                              refine And.intro (by with_reducible rfl) ?_
                                              conv => whnf
                                              refine And.intro (by with_reducible rfl) ?_
                                              conv => whnf
                                              refine And.intro (by with_reducible rfl) ?_
                                              conv => whnf
                                              refine And.intro (by decide) ?_
                                              conv => whnf
                                              refine And.intro (by with_reducible rfl) ?_
                                              conv => whnf
                                              refine And.intro (by with_reducible rfl) ?_
                                              conv => whnf
                                              refine And.intro (by with_reducible rfl) ?_
                                              conv => whnf
                                              refine And.intro (by with_reducible rfl) ?_
                                              conv => whnf
                                              refine And.intro (by with_reducible rfl) ?_
                                              exact True.intro
                                            · omega
                                            · rintro j nextl1 hIl1 ihl1
                                              try dsimp only at hIl1
                                              conv => whnf
                                              refine And.intro (fun hc10 => ?_) (fun hc10 => ?_)
                                              · replace hc10 := of_decide_eq_true hc10
                                                conv => whnf
                                                refine And.intro (by exact rfl) ?_
                                                conv => whnf
                                                refine And.intro (by omega) ?_
                                                refine ex_row (l := l) (i := j) ?_ fun y hy => ?_
                                                · (simp only [map_rows] at *; omega)
                                                · conv => whnf
                                                  refine And.intro (fun hc12 => ?_) (fun hc12 => ?_)
                                                  · simp only [Bool.not_eq_true', Bool.not_eq_false', Bool.and_eq_true, Bool.and_eq_false_imp, Bool.or_eq_true, Bool.or_eq_false_iff, Bool.and_true, Bool.true_and, Bool.not_true, Bool.not_false, decide_eq_true_eq, decide_eq_false_iff_not, Bool.decide_and] at hc12
                                                    conv => whnf
                                                    refine And.intro (by exact rfl) ?_
                                                    conv => whnf
                                                    refine And.intro (fun hc13 => ?_) (fun hc13 => ?_)
                                                    · replace hc13 := of_decide_eq_true hc13
                                                      conv => whnf
                                                      refine br_l rfl rfl ?_
                                                      conv => whnf
                                                      refine br_l rfl rfl ?_
                                                      conv => whnf
                                                      refine And.intro (by omega) ?_
                                                      refine ex_row (l := mixL l s) ?_ fun z hz => ?_
                                                      · (simp only [map_rows] at *; omega)
                                                      · simp only [toNat_ofNat] at hz
                                                        conv => whnf
                                                        refine br_l rfl rfl ?_
                                                        conv => whnf
                                                        refine br_l rfl rfl ?_
                                                        conv => whnf
                                                        refine br_l rfl rfl ?_
                                                        conv => whnf
                                                        refine br_l rfl rfl ?_
                                                        conv => whnf
                                                        refine And.intro (fun hc15 => ?_) (fun hc15 => ?_)
                                                        · simp only [Bool.not_eq_true', Bool.not_eq_false', Bool.and_eq_true, Bool.and_eq_false_imp, Bool.or_eq_true, Bool.or_eq_false_iff, Bool.and_true, Bool.true_and, Bool.not_true, Bool.not_false, decide_eq_true_eq, decide_eq_false_iff_not, Bool.decide_and] at hc15
                                                          conv => whnf
                                                          refine ihl1 (j + 1) _ ?_ ?_ (st_of ?_)
                                                          · (simp only [map_rows] at *; omega)
                                                          · (simp only [map_rows] at *; omega)
                                                          · conv => whnf
                                                            refine And.intro (by with_reducible rfl) ?_
                                                            conv => whnf
                                                            refine And.intro (by with_reducible rfl) ?_
                                                            conv => whnf
                                                            refine And.intro (by with_reducible rfl) ?_
                                                            conv => whnf
                                                            refine And.intro (by with_reducible rfl) ?_
                                                            conv => whnf
                                                            refine And.intro (by with_reducible rfl) ?_
                                                            refine And.intro (by with_reducible rfl) ?_
                                                            conv => whnf
                                                            refine And.intro (by with_reducible rfl) ?_
                                                            conv => whnf
                                                            refine And.intro (by with_reducible rfl) ?_
                                                            conv => whnf
                                                            refine And.intro (by with_reducible rfl) ?_
                                                            conv => whnf
                                                            refine And.intro (by with_reducible rfl) ?_
                                                            conv => whnf
                                                            refine And.intro (by with_reducible rfl) ?_
                                                            conv => whnf
                                                            refine And.intro (by with_reducible rfl) ?_
                                                            conv => whnf
                                                            refine And.intro (by with_reducible rfl) ?_
                                                            conv => whnf
                                                            refine And.intro (by with_reducible rfl) ?_
                                                            conv => whnf
                                                            refine And.intro (by with_reducible rfl) ?_
                                                            conv => whnf
                                                            refine And.intro (by with_reducible rfl) ?_
                                                            conv => whnf
                                                            refine And.intro (by with_reducible rfl) ?_
                                                            refine And.intro (by with_reducible rfl) ?_
                                                            conv => whnf
                                                            refine And.intro (by (have := flen_le l j (eqFl x); rw [filter_at _ hy, if_pos (by simp only [eqFl, decide_eq_true_eq]; assumption)]; simp only [List.length_append, List.length_cons, List.length_nil, wrap_i64, map_rows] at *; omega)) ?_
                                                            conv => whnf
                                                            refine And.intro (by (have := flen_le (mixL l s) j (eqFl x); rw [filter_at _ hz, if_pos (by simp only [eqFl, decide_eq_true_eq]; assumption)]; simp only [List.length_append, List.length_cons, List.length_nil, wrap_i64, map_rows] at *; omega)) ?_
                                                            conv => whnf
                                                            refine And.intro (by with_reducible rfl) ?_
                                                            conv => whnf
                                                            refine And.intro (by with_reducible rfl) ?_
                                                            conv => whnf
                                                            refine And.intro (by with_reducible rfl) ?_
                                                            conv => whnf
                                                            refine And.intro (by with_reducible rfl) ?_
                                                            conv => whnf
                                                            refine And.intro (by with_reducible rfl) ?_
                                                            conv => whnf
                                                            refine And.intro (by with_reducible rfl) ?_
                                                            conv => whnf
                                                            refine And.intro (by with_reducible rfl) ?_
                                                            conv => whnf
                                                            refine And.intro (by with_reducible rfl) ?_
                                                            conv => whnf
                                                            refine And.intro (by with_reducible rfl) ?_
                                                            conv => whnf
                                                            refine And.intro (by with_reducible rfl) ?_
                                                            conv => whnf
                                                            refine And.intro (by with_reducible rfl) ?_
                                                            conv => whnf
                                                            refine And.intro (by with_reducible rfl) ?_
                                                            conv => whnf
                                                            refine And.intro (by with_reducible rfl) ?_
                                                            conv => whnf
                                                            refine And.intro (by with_reducible rfl) ?_
                                                            refine And.intro (by with_reducible rfl) ?_
                                                            conv => whnf
                                                            refine And.intro (by with_reducible rfl) ?_
                                                            conv => whnf
                                                            refine And.intro (by with_reducible rfl) ?_
                                                            conv => whnf
                                                            refine And.intro (by with_reducible rfl) ?_
                                                            conv => whnf
                                                            refine And.intro (by with_reducible rfl) ?_
                                                            conv => whnf
                                                            refine And.intro (by with_reducible rfl) ?_
                                                            conv => whnf
                                                            refine And.intro (by with_reducible rfl) ?_
                                                            conv => whnf
                                                            refine And.intro (by with_reducible rfl) ?_
                                                            conv => whnf
                                                            refine And.intro (by with_reducible rfl) ?_
                                                            conv => whnf
                                                            refine And.intro (by with_reducible rfl) ?_
                                                            conv => whnf
                                                            refine And.intro (by with_reducible rfl) ?_
                                                            refine And.intro (by with_reducible rfl) ?_
                                                            conv => whnf
                                                            refine And.intro (by with_reducible rfl) ?_
                                                            conv => whnf
                                                            refine And.intro (by with_reducible rfl) ?_
                                                            conv => whnf
                                                            refine And.intro (by with_reducible rfl) ?_
                                                            conv => whnf
                                                            refine And.intro (by with_reducible rfl) ?_
                                                            conv => whnf
                                                            refine And.intro (by with_reducible rfl) ?_
                                                            conv => whnf
                                                            refine And.intro (by with_reducible rfl) ?_
                                                            conv => whnf
                                                            refine And.intro (by with_reducible rfl) ?_
                                                            conv => whnf
                                                            refine And.intro (by with_reducible rfl) ?_
                                                            conv => whnf
                                                            refine And.intro (by with_reducible rfl) ?_
                                                            refine And.intro (by with_reducible rfl) ?_
                                                            conv => whnf
                                                            refine And.intro (by with_reducible rfl) ?_
                                                            conv => whnf
                                                            refine And.intro (by with_reducible rfl) ?_
                                                            conv => whnf
                                                            refine And.intro (by with_reducible rfl) ?_
                                                            conv => whnf
                                                            refine And.intro (by with_reducible rfl) ?_
                                                            conv => whnf
                                                            refine And.intro (by with_reducible rfl) ?_
                                                            conv => whnf
                                                            refine And.intro (by with_reducible rfl) ?_
                                                            conv => whnf
                                                            refine And.intro (by with_reducible rfl) ?_
                                                            conv => whnf
                                                            refine And.intro (by with_reducible rfl) ?_
                                                            conv => whnf
                                                            refine And.intro (by with_reducible rfl) ?_
                                                            refine And.intro (by with_reducible rfl) ?_
                                                            conv => whnf
                                                            refine And.intro (by with_reducible rfl) ?_
                                                            conv => whnf
                                                            refine And.intro (by with_reducible rfl) ?_
                                                            conv => whnf
                                                            refine And.intro (by with_reducible rfl) ?_
                                                            conv => whnf
                                                            refine And.intro (by with_reducible rfl) ?_
                                                            conv => whnf
                                                            refine And.intro (by with_reducible rfl) ?_
                                                            conv => whnf
                                                            refine And.intro (by with_reducible rfl) ?_
                                                            conv => whnf
                                                            refine And.intro (by with_reducible rfl) ?_
                                                            conv => whnf
                                                            refine And.intro (by with_reducible rfl) ?_
                                                            conv => whnf
                                                            refine And.intro (by with_reducible rfl) ?_
                                                            conv => whnf
                                                            refine And.intro (by with_reducible rfl) ?_
                                                            conv => whnf
                                                            refine And.intro (by with_reducible rfl) ?_
                                                            conv => whnf
                                                            refine And.intro (by with_reducible rfl) ?_
                                                            conv => whnf
                                                            refine And.intro (by with_reducible rfl) ?_
                                                            conv => whnf
                                                            refine And.intro (by with_reducible rfl) ?_
                                                            conv => whnf
                                                            refine And.intro (by with_reducible rfl) ?_
                                                            conv => whnf
                                                            refine And.intro (by with_reducible rfl) ?_
                                                            conv => whnf
                                                            refine And.intro (by with_reducible rfl) ?_
                                                            conv => whnf
                                                            refine And.intro (by with_reducible rfl) ?_
                                                            conv => whnf
                                                            refine And.intro (by with_reducible rfl) ?_
                                                            conv => whnf
                                                            refine And.intro (by with_reducible rfl) ?_
                                                            conv => whnf
                                                            refine And.intro (by with_reducible rfl) ?_
                                                            conv => whnf
                                                            refine And.intro (by with_reducible rfl) ?_
                                                            conv => whnf
                                                            refine And.intro (by with_reducible rfl) ?_
                                                            conv => whnf
                                                            refine And.intro (by with_reducible rfl) ?_
                                                            conv => whnf
                                                            refine And.intro (by with_reducible rfl) ?_
                                                            conv => whnf
                                                            refine And.intro (by with_reducible rfl) ?_
                                                            conv => whnf
                                                            refine And.intro (by with_reducible rfl) ?_
                                                            conv => whnf
                                                            refine And.intro (by with_reducible rfl) ?_
                                                            conv => whnf
                                                            refine And.intro (by with_reducible rfl) ?_
                                                            conv => whnf
                                                            refine And.intro (by with_reducible rfl) ?_
                                                            conv => whnf
                                                            refine And.intro (by with_reducible rfl) ?_
                                                            conv => whnf
                                                            refine And.intro (by with_reducible rfl) ?_
                                                            conv => whnf
                                                            refine And.intro (by with_reducible rfl) ?_
                                                            conv => whnf
                                                            refine And.intro (by with_reducible rfl) ?_
                                                            conv => whnf
                                                            refine And.intro (by with_reducible rfl) ?_
                                                            conv => whnf
                                                            refine And.intro (by with_reducible rfl) ?_
                                                            conv => whnf
                                                            refine And.intro (by with_reducible rfl) ?_
                                                            conv => whnf
                                                            refine And.intro (by with_reducible rfl) ?_
                                                            conv => whnf
                                                            refine And.intro (by with_reducible rfl) ?_
                                                            conv => whnf
                                                            refine And.intro (by with_reducible rfl) ?_
                                                            conv => whnf
                                                            refine And.intro (by with_reducible rfl) ?_
                                                            conv => whnf
                                                            refine And.intro (by with_reducible rfl) ?_
                                                            conv => whnf
                                                            refine And.intro (by with_reducible rfl) ?_
                                                            conv => whnf
                                                            refine And.intro (by with_reducible rfl) ?_
                                                            conv => whnf
                                                            refine And.intro (by with_reducible rfl) ?_
                                                            conv => whnf
                                                            refine And.intro (by with_reducible rfl) ?_
                                                            conv => whnf
                                                            refine And.intro (by with_reducible rfl) ?_
                                                            conv => whnf
                                                            refine And.intro (by with_reducible rfl) ?_
                                                            conv => whnf
                                                            refine And.intro (by with_reducible rfl) ?_
                                                            conv => whnf
                                                            refine And.intro (by with_reducible rfl) ?_
                                                            conv => whnf
                                                            refine And.intro (by with_reducible rfl) ?_
                                                            conv => whnf
                                                            refine And.intro (by with_reducible rfl) ?_
                                                            conv => whnf
                                                            refine And.intro (by with_reducible rfl) ?_
                                                            conv => whnf
                                                            refine And.intro (by with_reducible rfl) ?_
                                                            conv => whnf
                                                            refine And.intro (by with_reducible rfl) ?_
                                                            conv => whnf
                                                            refine And.intro (by with_reducible rfl) ?_
                                                            conv => whnf
                                                            refine And.intro (by with_reducible rfl) ?_
                                                            conv => whnf
                                                            refine And.intro (by with_reducible rfl) ?_
                                                            conv => whnf
                                                            refine And.intro (by with_reducible rfl) ?_
                                                            conv => whnf
                                                            refine And.intro (by with_reducible rfl) ?_
                                                            conv => whnf
                                                            refine And.intro (by with_reducible rfl) ?_
                                                            conv => whnf
                                                            refine And.intro (by (simp only [wrap_i64, wrap_u64, wrap_u32, wrap_u16, wrap_u8, maxLen_eq, mmI] at *; omega)) ?_
                                                            conv => whnf
                                                            refine And.intro (by with_reducible rfl) ?_
                                                            conv => whnf
                                                            refine And.intro (by with_reducible rfl) ?_
                                                            conv => whnf
                                                            refine And.intro (by with_reducible rfl) ?_
                                                            conv => whnf
                                                            refine And.intro (by with_reducible rfl) ?_
                                                            conv => whnf
                                                            refine And.intro (by with_reducible rfl) ?_
                                                            exact True.intro
                                                        · simp only [Bool.not_eq_true', Bool.not_eq_false', Bool.and_eq_true, Bool.and_eq_false_imp, Bool.or_eq_true, Bool.or_eq_false_iff, Bool.and_true, Bool.true_and, Bool.not_true, Bool.not_false, decide_eq_true_eq, decide_eq_false_iff_not, Bool.decide_and] at hc15
                                                          conv => whnf
                                                          refine ihl1 (j + 1) _ ?_ ?_ (st_of ?_)
                                                          · (simp only [map_rows] at *; omega)
                                                          · (simp only [map_rows] at *; omega)
                                                          · conv => whnf
                                                            refine And.intro (by with_reducible rfl) ?_
                                                            conv => whnf
                                                            refine And.intro (by with_reducible rfl) ?_
                                                            conv => whnf
                                                            refine And.intro (by with_reducible rfl) ?_
                                                            conv => whnf
                                                            refine And.intro (by with_reducible rfl) ?_
                                                            conv => whnf
                                                            refine And.intro (by with_reducible rfl) ?_
                                                            refine And.intro (by with_reducible rfl) ?_
                                                            conv => whnf
                                                            refine And.intro (by with_reducible rfl) ?_
                                                            conv => whnf
                                                            refine And.intro (by with_reducible rfl) ?_
                                                            conv => whnf
                                                            refine And.intro (by with_reducible rfl) ?_
                                                            conv => whnf
                                                            refine And.intro (by with_reducible rfl) ?_
                                                            conv => whnf
                                                            refine And.intro (by with_reducible rfl) ?_
                                                            conv => whnf
                                                            refine And.intro (by with_reducible rfl) ?_
                                                            conv => whnf
                                                            refine And.intro (by with_reducible rfl) ?_
                                                            conv => whnf
                                                            refine And.intro (by with_reducible rfl) ?_
                                                            conv => whnf
                                                            refine And.intro (by with_reducible rfl) ?_
                                                            conv => whnf
                                                            refine And.intro (by with_reducible rfl) ?_
                                                            conv => whnf
                                                            refine And.intro (by with_reducible rfl) ?_
                                                            refine And.intro (by with_reducible rfl) ?_
                                                            conv => whnf
                                                            refine And.intro (by (have := flen_le l j (eqFl x); rw [filter_at _ hy, if_pos (by simp only [eqFl, decide_eq_true_eq]; assumption)]; simp only [List.length_append, List.length_cons, List.length_nil, wrap_i64, map_rows] at *; omega)) ?_
                                                            conv => whnf
                                                            refine And.intro (by (rw [filter_at _ hz, if_neg (by simp only [eqFl, decide_eq_true_eq]; (try simp only [not_and]); assumption), List.append_nil])) ?_
                                                            conv => whnf
                                                            refine And.intro (by with_reducible rfl) ?_
                                                            conv => whnf
                                                            refine And.intro (by with_reducible rfl) ?_
                                                            conv => whnf
                                                            refine And.intro (by with_reducible rfl) ?_
                                                            conv => whnf
                                                            refine And.intro (by with_reducible rfl) ?_
                                                            conv => whnf
                                                            refine And.intro (by with_reducible rfl) ?_
                                                            conv => whnf
                                                            refine And.intro (by with_reducible rfl) ?_
                                                            conv => whnf
                                                            refine And.intro (by with_reducible rfl) ?_
                                                            conv => whnf
                                                            refine And.intro (by with_reducible rfl) ?_
                                                            conv => whnf
                                                            refine And.intro (by with_reducible rfl) ?_
                                                            conv => whnf
                                                            refine And.intro (by with_reducible rfl) ?_
                                                            conv => whnf
                                                            refine And.intro (by with_reducible rfl) ?_
                                                            conv => whnf
                                                            refine And.intro (by with_reducible rfl) ?_
                                                            conv => whnf
                                                            refine And.intro (by with_reducible rfl) ?_
                                                            conv => whnf
                                                            refine And.intro (by with_reducible rfl) ?_
                                                            refine And.intro (by with_reducible rfl) ?_
                                                            conv => whnf
                                                            refine And.intro (by with_reducible rfl) ?_
                                                            conv => whnf
                                                            refine And.intro (by with_reducible rfl) ?_
                                                            conv => whnf
                                                            refine And.intro (by with_reducible rfl) ?_
                                                            conv => whnf
                                                            refine And.intro (by with_reducible rfl) ?_
                                                            conv => whnf
                                                            refine And.intro (by with_reducible rfl) ?_
                                                            conv => whnf
                                                            refine And.intro (by with_reducible rfl) ?_
                                                            conv => whnf
                                                            refine And.intro (by with_reducible rfl) ?_
                                                            conv => whnf
                                                            refine And.intro (by with_reducible rfl) ?_
                                                            conv => whnf
                                                            refine And.intro (by with_reducible rfl) ?_
                                                            conv => whnf
                                                            refine And.intro (by with_reducible rfl) ?_
                                                            refine And.intro (by with_reducible rfl) ?_
                                                            conv => whnf
                                                            refine And.intro (by with_reducible rfl) ?_
                                                            conv => whnf
                                                            refine And.intro (by with_reducible rfl) ?_
                                                            conv => whnf
                                                            refine And.intro (by with_reducible rfl) ?_
                                                            conv => whnf
                                                            refine And.intro (by with_reducible rfl) ?_
                                                            conv => whnf
                                                            refine And.intro (by with_reducible rfl) ?_
                                                            conv => whnf
                                                            refine And.intro (by with_reducible rfl) ?_
                                                            conv => whnf
                                                            refine And.intro (by with_reducible rfl) ?_
                                                            conv => whnf
                                                            refine And.intro (by with_reducible rfl) ?_
                                                            conv => whnf
                                                            refine And.intro (by with_reducible rfl) ?_
                                                            refine And.intro (by with_reducible rfl) ?_
                                                            conv => whnf
                                                            refine And.intro (by with_reducible rfl) ?_
                                                            conv => whnf
                                                            refine And.intro (by with_reducible rfl) ?_
                                                            conv => whnf
                                                            refine And.intro (by with_reducible rfl) ?_
                                                            conv => whnf
                                                            refine And.intro (by with_reducible rfl) ?_
                                                            conv => whnf
                                                            refine And.intro (by with_reducible rfl) ?_
                                                            conv => whnf
                                                            refine And.intro (by with_reducible rfl) ?_
                                                            conv => whnf
                                                            refine And.intro (by with_reducible rfl) ?_
                                                            conv => whnf
                                                            refine And.intro (by with_reducible rfl) ?_
                                                            conv => whnf
                                                            refine And.intro (by with_reducible rfl) ?_
                                                            refine And.intro (by with_reducible rfl) ?_
                                                            conv => whnf
                                                            refine And.intro (by with_reducible rfl) ?_
                                                            conv => whnf
                                                            refine And.intro (by with_reducible rfl) ?_
                                                            conv => whnf
                                                            refine And.intro (by with_reducible rfl) ?_
                                                            conv => whnf
                                                            refine And.intro (by with_reducible rfl) ?_
                                                            conv => whnf
                                                            refine And.intro (by with_reducible rfl) ?_
                                                            conv => whnf
                                                            refine And.intro (by with_reducible rfl) ?_
                                                            conv => whnf
                                                            refine And.intro (by with_reducible rfl) ?_
                                                            conv => whnf
                                                            refine And.intro (by with_reducible rfl) ?_
                                                            conv => whnf
                                                            refine And.intro (by with_reducible rfl) ?_
                                                            conv => whnf
                                                            refine And.intro (by with_reducible rfl) ?_
                                                            conv => whnf
                                                            refine And.intro (by with_reducible rfl) ?_
                                                            conv => whnf
                                                            refine And.intro (by with_reducible rfl) ?_
                                                            conv => whnf
                                                            refine And.intro (by with_reducible rfl) ?_
                                                            conv => whnf
                                                            refine And.intro (by with_reducible rfl) ?_
                                                            conv => whnf
                                                            refine And.intro (by with_reducible rfl) ?_
                                                            conv => whnf
                                                            refine And.intro (by with_reducible rfl) ?_
                                                            conv => whnf
                                                            refine And.intro (by with_reducible rfl) ?_
                                                            conv => whnf
                                                            refine And.intro (by with_reducible rfl) ?_
                                                            conv => whnf
                                                            refine And.intro (by with_reducible rfl) ?_
                                                            conv => whnf
                                                            refine And.intro (by with_reducible rfl) ?_
                                                            conv => whnf
                                                            refine And.intro (by with_reducible rfl) ?_
                                                            conv => whnf
                                                            refine And.intro (by with_reducible rfl) ?_
                                                            conv => whnf
                                                            refine And.intro (by with_reducible rfl) ?_
                                                            conv => whnf
                                                            refine And.intro (by with_reducible rfl) ?_
                                                            conv => whnf
                                                            refine And.intro (by with_reducible rfl) ?_
                                                            conv => whnf
                                                            refine And.intro (by with_reducible rfl) ?_
                                                            conv => whnf
                                                            refine And.intro (by with_reducible rfl) ?_
                                                            conv => whnf
                                                            refine And.intro (by with_reducible rfl) ?_
                                                            conv => whnf
                                                            refine And.intro (by with_reducible rfl) ?_
                                                            conv => whnf
                                                            refine And.intro (by with_reducible rfl) ?_
                                                            conv => whnf
                                                            refine And.intro (by with_reducible rfl) ?_
                                                            conv => whnf
                                                            refine And.intro (by with_reducible rfl) ?_
                                                            conv => whnf
                                                            refine And.intro (by with_reducible rfl) ?_
                                                            conv => whnf
                                                            refine And.intro (by with_reducible rfl) ?_
                                                            conv => whnf
                                                            refine And.intro (by with_reducible rfl) ?_
                                                            conv => whnf
                                                            refine And.intro (by with_reducible rfl) ?_
                                                            conv => whnf
                                                            refine And.intro (by with_reducible rfl) ?_
                                                            conv => whnf
                                                            refine And.intro (by with_reducible rfl) ?_
                                                            conv => whnf
                                                            refine And.intro (by with_reducible rfl) ?_
                                                            conv => whnf
                                                            refine And.intro (by with_reducible rfl) ?_
                                                            conv => whnf
                                                            refine And.intro (by with_reducible rfl) ?_
                                                            conv => whnf
                                                            refine And.intro (by with_reducible rfl) ?_
                                                            conv => whnf
                                                            refine And.intro (by with_reducible rfl) ?_
                                                            conv => whnf
                                                            refine And.intro (by with_reducible rfl) ?_
                                                            conv => whnf
                                                            refine And.intro (by with_reducible rfl) ?_
                                                            conv => whnf
                                                            refine And.intro (by with_reducible rfl) ?_
                                                            conv => whnf
                                                            refine And.intro (by with_reducible rfl) ?_
                                                            conv => whnf
                                                            refine And.intro (by with_reducible rfl) ?_
                                                            conv => whnf
                                                            refine And.intro (by with_reducible rfl) ?_
                                                            conv => whnf
                                                            refine And.intro (by with_reducible rfl) ?_
                                                            conv => whnf
                                                            refine And.intro (by with_reducible rfl) ?_
                                                            conv => whnf
                                                            refine And.intro (by with_reducible rfl) ?_
                                                            conv => whnf
                                                            refine And.intro (by with_reducible rfl) ?_
                                                            conv => whnf
                                                            refine And.intro (by with_reducible rfl) ?_
                                                            conv => whnf
                                                            refine And.intro (by with_reducible rfl) ?_
                                                            conv => whnf
                                                            refine And.intro (by with_reducible rfl) ?_
                                                            conv => whnf
                                                            refine And.intro (by with_reducible rfl) ?_
                                                            conv => whnf
                                                            refine And.intro (by with_reducible rfl) ?_
                                                            conv => whnf
                                                            refine And.intro (by with_reducible rfl) ?_
                                                            conv => whnf
                                                            refine And.intro (by with_reducible rfl) ?_
                                                            conv => whnf
                                                            refine And.intro (by with_reducible rfl) ?_
                                                            conv => whnf
                                                            refine And.intro (by (simp only [wrap_i64, wrap_u64, wrap_u32, wrap_u16, wrap_u8, maxLen_eq, mmI] at *; omega)) ?_
                                                            conv => whnf
                                                            refine And.intro (by with_reducible rfl) ?_
                                                            conv => whnf
                                                            refine And.intro (by with_reducible rfl) ?_
                                                            conv => whnf
                                                            refine And.intro (by with_reducible rfl) ?_
                                                            conv => whnf
                                                            refine And.intro (by with_reducible rfl) ?_
                                                            conv => whnf
                                                            refine And.intro (by with_reducible rfl) ?_
                                                            exact True.intro
                                                    · replace hc13 := of_decide_eq_false hc13
                                                      (exfalso; simp_all; done)
                                                  · simp only [Bool.not_eq_true', Bool.not_eq_false', Bool.and_eq_true, Bool.and_eq_false_imp, Bool.or_eq_true, Bool.or_eq_false_iff, Bool.and_true, Bool.true_and, Bool.not_true, Bool.not_false, decide_eq_true_eq, decide_eq_false_iff_not, Bool.decide_and] at hc12
                                                    conv => whnf
                                                    refine And.intro (by exact rfl) ?_
                                                    conv => whnf
                                                    refine And.intro (fun hc16 => ?_) (fun hc16 => ?_)
                                                    · replace hc16 := of_decide_eq_true hc16
                                                      conv => whnf
                                                      refine br_l rfl rfl ?_
                                                      conv => whnf
                                                      refine br_l rfl rfl ?_
                                                      conv => whnf
                                                      refine And.intro (by omega) ?_
                                                      refine ex_row (l := mixL l s) ?_ fun z hz => ?_
                                                      · (simp only [map_rows] at *; omega)
                                                      · simp only [toNat_ofNat] at hz
                                                        conv => whnf
                                                        refine br_l rfl rfl ?_
                                                        conv => whnf
                                                        refine br_l rfl rfl ?_
                                                        conv => whnf
                                                        refine br_l rfl rfl ?_
                                                        conv => whnf
                                                        refine br_l rfl rfl ?_
                                                        conv => whnf
                                                        refine And.intro (fun hc18 => ?_) (fun hc18 => ?_)
                                                        · simp only [Bool.not_eq_true', Bool.not_eq_false', Bool.and_eq_true, Bool.and_eq_false_imp, Bool.or_eq_true, Bool.or_eq_false_iff, Bool.and_true, Bool.true_and, Bool.not_true, Bool.not_false, decide_eq_true_eq, decide_eq_false_iff_not, Bool.decide_and] at hc18
                                                          conv => whnf
                                                          refine ihl1 (j + 1) _ ?_ ?_ (st_of ?_)
                                                          · (simp only [map_rows] at *; omega)
                                                          · (simp only [map_rows] at *; omega)
                                                          · conv => whnf
                                                            refine And.intro (by with_reducible rfl) ?_
                                                            conv => whnf
                                                            refine And.intro (by with_reducible rfl) ?_
                                                            conv => whnf
                                                            refine And.intro (by with_reducible rfl) ?_
                                                            conv => whnf
                                                            refine And.intro (by with_reducible rfl) ?_
                                                            conv => whnf
                                                            refine And.intro (by with_reducible rfl) ?_
                                                            refine And.intro (by with_reducible rfl) ?_
                                                            conv => whnf
                                                            refine And.intro (by with_reducible rfl) ?_
                                                            conv => whnf
                                                            refine And.intro (by with_reducible rfl) ?_
                                                            conv => whnf
                                                            refine And.intro (by with_reducible rfl) ?_
                                                            conv => whnf
                                                            refine And.intro (by with_reducible rfl) ?_
                                                            conv => whnf
                                                            refine And.intro (by with_reducible rfl) ?_
                                                            conv => whnf
                                                            refine And.intro (by with_reducible rfl) ?_
                                                            conv => whnf
                                                            refine And.intro (by with_reducible rfl) ?_
                                                            conv => whnf
                                                            refine And.intro (by with_reducible rfl) ?_
                                                            conv => whnf
                                                            refine And.intro (by with_reducible rfl) ?_
                                                            conv => whnf
                                                            refine And.intro (by with_reducible rfl) ?_
                                                            conv => whnf
                                                            refine And.intro (by with_reducible rfl) ?_
                                                            refine And.intro (by with_reducible rfl) ?_
                                                            conv => whnf
                                                            refine And.intro (by (rw [filter_at _ hy, if_neg (by simp only [eqFl, decide_eq_true_eq]; (try simp only [not_and]); assumption), List.append_nil])) ?_
                                                            conv => whnf
                                                            refine And.intro (by (have := flen_le (mixL l s) j (eqFl x); rw [filter_at _ hz, if_pos (by simp only [eqFl, decide_eq_true_eq]; assumption)]; simp only [List.length_append, List.length_cons, List.length_nil, wrap_i64, map_rows] at *; omega)) ?_
                                                            conv => whnf
                                                            refine And.intro (by with_reducible rfl) ?_
                                                            conv => whnf
                                                            refine And.intro (by with_reducible rfl) ?_
                                                            conv => whnf
                                                            refine And.intro (by with_reducible rfl) ?_
                                                            conv => whnf
                                                            refine And.intro (by with_reducible rfl) ?_
                                                            conv => whnf
                                                            refine And.intro (by with_reducible rfl) ?_
                                                            conv => whnf
                                                            refine And.intro (by with_reducible rfl) ?_
                                                            conv => whnf
                                                            refine And.intro (by with_reducible rfl) ?_
                                                            conv => whnf
                                                            refine And.intro (by with_reducible rfl) ?_
                                                            conv => whnf
                                                            refine And.intro (by with_reducible rfl) ?_
                                                            conv => whnf
                                                            refine And.intro (by with_reducible rfl) ?_
                                                            conv => whnf
                                                            refine And.intro (by with_reducible rfl) ?_
                                                            conv => whnf
                                                            refine And.intro (by with_reducible rfl) ?_
                                                            conv => whnf
                                                            refine And.intro (by with_reducible rfl) ?_
                                                            conv => whnf
                                                            refine And.intro (by with_reducible rfl) ?_
                                                            refine And.intro (by with_reducible rfl) ?_
                                                            conv => whnf
                                                            refine And.intro (by with_reducible rfl) ?_
                                                            conv => whnf
                                                            refine And.intro (by with_reducible rfl) ?_
                                                            conv => whnf
                                                            refine And.intro (by with_reducible rfl) ?_
                                                            conv => whnf
                                                            refine And.intro (by with_reducible rfl) ?_
                                                            conv => whnf
                                                            refine And.intro (by with_reducible rfl) ?_
                                                            conv => whnf
                                                            refine And.intro (by with_reducible rfl) ?_
                                                            conv => whnf
                                                            refine And.intro (by with_reducible rfl) ?_
                                                            conv => whnf
                                                            refine And.intro (by with_reducible rfl) ?_
                                                            conv => whnf
                                                            refine And.intro (by with_reducible rfl) ?_
                                                            conv => whnf
                                                            refine And.intro (by with_reducible rfl) ?_
                                                            refine And.intro (by with_reducible rfl) ?_
                                                            conv => whnf
                                                            refine And.intro (by with_reducible rfl) ?_
                                                            conv => whnf
                                                            refine And.intro (by with_reducible rfl) ?_
                                                            conv => whnf
                                                            refine And.intro (by with_reducible rfl) ?_
                                                            conv => whnf
                                                            refine And.intro (by with_reducible rfl) ?_
                                                            conv => whnf
                                                            refine And.intro (by with_reducible rfl) ?_
                                                            conv => whnf
                                                            refine And.intro (by with_reducible rfl) ?_
                                                            conv => whnf
                                                            refine And.intro (by with_reducible rfl) ?_
                                                            conv => whnf
                                                            refine And.intro (by with_reducible rfl) ?_
                                                            conv => whnf
                                                            refine And.intro (by with_reducible rfl) ?_
                                                            refine And.intro (by with_reducible rfl) ?_
                                                            conv => whnf
                                                            refine And.intro (by with_reducible rfl) ?_
                                                            conv => whnf
                                                            refine And.intro (by with_reducible rfl) ?_
                                                            conv => whnf
                                                            refine And.intro (by with_reducible rfl) ?_
                                                            conv => whnf
                                                            refine And.intro (by with_reducible rfl) ?_
                                                            conv => whnf
                                                            refine And.intro (by with_reducible rfl) ?_
                                                            conv => whnf
                                                            refine And.intro (by with_reducible rfl) ?_
                                                            conv => whnf
                                                            refine And.intro (by with_reducible rfl) ?_
                                                            conv => whnf
                                                            refine And.intro (by with_reducible rfl) ?_
                                                            conv => whnf
                                                            refine And.intro (by with_reducible rfl) ?_
                                                            refine And.intro (by with_reducible rfl) ?_
                                                            conv => whnf
                                                            refine And.intro (by with_reducible rfl) ?_
                                                            conv => whnf
                                                            refine And.intro (by with_reducible rfl) ?_
                                                            conv => whnf
                                                            refine And.intro (by with_reducible rfl) ?_
                                                            conv => whnf
                                                            refine And.intro (by with_reducible rfl) ?_
                                                            conv => whnf
                                                            refine And.intro (by with_reducible rfl) ?_
                                                            conv => whnf
                                                            refine And.intro (by with_reducible rfl) ?_
                                                            conv => whnf
                                                            refine And.intro (by with_reducible rfl) ?_
                                                            conv => whnf
                                                            refine And.intro (by with_reducible rfl) ?_
                                                            conv => whnf
                                                            refine And.intro (by with_reducible rfl) ?_
                                                            conv => whnf
                                                            refine And.intro (by with_reducible rfl) ?_
                                                            conv => whnf
                                                            refine And.intro (by with_reducible rfl) ?_
                                                            conv => whnf
                                                            refine And.intro (by with_reducible rfl) ?_
                                                            conv => whnf
                                                            refine And.intro (by with_reducible rfl) ?_
                                                            conv => whnf
                                                            refine And.intro (by with_reducible rfl) ?_
                                                            conv => whnf
                                                            refine And.intro (by with_reducible rfl) ?_
                                                            conv => whnf
                                                            refine And.intro (by with_reducible rfl) ?_
                                                            conv => whnf
                                                            refine And.intro (by with_reducible rfl) ?_
                                                            conv => whnf
                                                            refine And.intro (by with_reducible rfl) ?_
                                                            conv => whnf
                                                            refine And.intro (by with_reducible rfl) ?_
                                                            conv => whnf
                                                            refine And.intro (by with_reducible rfl) ?_
                                                            conv => whnf
                                                            refine And.intro (by with_reducible rfl) ?_
                                                            conv => whnf
                                                            refine And.intro (by with_reducible rfl) ?_
                                                            conv => whnf
                                                            refine And.intro (by with_reducible rfl) ?_
                                                            conv => whnf
                                                            refine And.intro (by with_reducible rfl) ?_
                                                            conv => whnf
                                                            refine And.intro (by with_reducible rfl) ?_
                                                            conv => whnf
                                                            refine And.intro (by with_reducible rfl) ?_
                                                            conv => whnf
                                                            refine And.intro (by with_reducible rfl) ?_
                                                            conv => whnf
                                                            refine And.intro (by with_reducible rfl) ?_
                                                            conv => whnf
                                                            refine And.intro (by with_reducible rfl) ?_
                                                            conv => whnf
                                                            refine And.intro (by with_reducible rfl) ?_
                                                            conv => whnf
                                                            refine And.intro (by with_reducible rfl) ?_
                                                            conv => whnf
                                                            refine And.intro (by with_reducible rfl) ?_
                                                            conv => whnf
                                                            refine And.intro (by with_reducible rfl) ?_
                                                            conv => whnf
                                                            refine And.intro (by with_reducible rfl) ?_
                                                            conv => whnf
                                                            refine And.intro (by with_reducible rfl) ?_
                                                            conv => whnf
                                                            refine And.intro (by with_reducible rfl) ?_
                                                            conv => whnf
                                                            refine And.intro (by with_reducible rfl) ?_
                                                            conv => whnf
                                                            refine And.intro (by with_reducible rfl) ?_
                                                            conv => whnf
                                                            refine And.intro (by with_reducible rfl) ?_
                                                            conv => whnf
                                                            refine And.intro (by with_reducible rfl) ?_
                                                            conv => whnf
                                                            refine And.intro (by with_reducible rfl) ?_
                                                            conv => whnf
                                                            refine And.intro (by with_reducible rfl) ?_
                                                            conv => whnf
                                                            refine And.intro (by with_reducible rfl) ?_
                                                            conv => whnf
                                                            refine And.intro (by with_reducible rfl) ?_
                                                            conv => whnf
                                                            refine And.intro (by with_reducible rfl) ?_
                                                            conv => whnf
                                                            refine And.intro (by with_reducible rfl) ?_
                                                            conv => whnf
                                                            refine And.intro (by with_reducible rfl) ?_
                                                            conv => whnf
                                                            refine And.intro (by with_reducible rfl) ?_
                                                            conv => whnf
                                                            refine And.intro (by with_reducible rfl) ?_
                                                            conv => whnf
                                                            refine And.intro (by with_reducible rfl) ?_
                                                            conv => whnf
                                                            refine And.intro (by with_reducible rfl) ?_
                                                            conv => whnf
                                                            refine And.intro (by with_reducible rfl) ?_
                                                            conv => whnf
                                                            refine And.intro (by with_reducible rfl) ?_
                                                            conv => whnf
                                                            refine And.intro (by with_reducible rfl) ?_
                                                            conv => whnf
                                                            refine And.intro (by with_reducible rfl) ?_
                                                            conv => whnf
                                                            refine And.intro (by with_reducible rfl) ?_
                                                            conv => whnf
                                                            refine And.intro (by with_reducible rfl) ?_
                                                            conv => whnf
                                                            refine And.intro (by with_reducible rfl) ?_
                                                            conv => whnf
                                                            refine And.intro (by with_reducible rfl) ?_
                                                            conv => whnf
                                                            refine And.intro (by with_reducible rfl) ?_
                                                            conv => whnf
                                                            refine And.intro (by with_reducible rfl) ?_
                                                            conv => whnf
                                                            refine And.intro (by (simp only [wrap_i64, wrap_u64, wrap_u32, wrap_u16, wrap_u8, maxLen_eq, mmI] at *; omega)) ?_
                                                            conv => whnf
                                                            refine And.intro (by with_reducible rfl) ?_
                                                            conv => whnf
                                                            refine And.intro (by with_reducible rfl) ?_
                                                            conv => whnf
                                                            refine And.intro (by with_reducible rfl) ?_
                                                            conv => whnf
                                                            refine And.intro (by with_reducible rfl) ?_
                                                            conv => whnf
                                                            refine And.intro (by with_reducible rfl) ?_
                                                            exact True.intro
                                                        · simp only [Bool.not_eq_true', Bool.not_eq_false', Bool.and_eq_true, Bool.and_eq_false_imp, Bool.or_eq_true, Bool.or_eq_false_iff, Bool.and_true, Bool.true_and, Bool.not_true, Bool.not_false, decide_eq_true_eq, decide_eq_false_iff_not, Bool.decide_and] at hc18
                                                          conv => whnf
                                                          refine ihl1 (j + 1) _ ?_ ?_ (st_of ?_)
                                                          · (simp only [map_rows] at *; omega)
                                                          · (simp only [map_rows] at *; omega)
                                                          · conv => whnf
                                                            refine And.intro (by with_reducible rfl) ?_
                                                            conv => whnf
                                                            refine And.intro (by with_reducible rfl) ?_
                                                            conv => whnf
                                                            refine And.intro (by with_reducible rfl) ?_
                                                            conv => whnf
                                                            refine And.intro (by with_reducible rfl) ?_
                                                            conv => whnf
                                                            refine And.intro (by with_reducible rfl) ?_
                                                            refine And.intro (by with_reducible rfl) ?_
                                                            conv => whnf
                                                            refine And.intro (by with_reducible rfl) ?_
                                                            conv => whnf
                                                            refine And.intro (by with_reducible rfl) ?_
                                                            conv => whnf
                                                            refine And.intro (by with_reducible rfl) ?_
                                                            conv => whnf
                                                            refine And.intro (by with_reducible rfl) ?_
                                                            conv => whnf
                                                            refine And.intro (by with_reducible rfl) ?_
                                                            conv => whnf
                                                            refine And.intro (by with_reducible rfl) ?_
                                                            conv => whnf
                                                            refine And.intro (by with_reducible rfl) ?_
                                                            conv => whnf
                                                            refine And.intro (by with_reducible rfl) ?_
                                                            conv => whnf
                                                            refine And.intro (by with_reducible rfl) ?_
                                                            conv => whnf
                                                            refine And.intro (by with_reducible rfl) ?_
                                                            conv => whnf
                                                            refine And.intro (by with_reducible rfl) ?_
                                                            refine And.intro (by with_reducible rfl) ?_
                                                            conv => whnf
                                                            refine And.intro (by (rw [filter_at _ hy, if_neg (by simp only [eqFl, decide_eq_true_eq]; (try simp only [not_and]); assumption), List.append_nil])) ?_
                                                            conv => whnf
                                                            refine And.intro (by (rw [filter_at _ hz, if_neg (by simp only [eqFl, decide_eq_true_eq]; (try simp only [not_and]); assumption), List.append_nil])) ?_
                                                            conv => whnf
                                                            refine And.intro (by with_reducible rfl) ?_
                                                            conv => whnf
                                                            refine And.intro (by with_reducible rfl) ?_
                                                            conv => whnf
                                                            refine And.intro (by with_reducible rfl) ?_
                                                            conv => whnf
                                                            refine And.intro (by with_reducible rfl) ?_
                                                            conv => whnf
                                                            refine And.intro (by with_reducible rfl) ?_
                                                            conv => whnf
                                                            refine And.intro (by with_reducible rfl) ?_
                                                            conv => whnf
                                                            refine And.intro (by with_reducible rfl) ?_
                                                            conv => whnf
                                                            refine And.intro (by with_reducible rfl) ?_
                                                            conv => whnf
                                                            refine And.intro (by with_reducible rfl) ?_
                                                            conv => whnf
                                                            refine And.intro (by with_reducible rfl) ?_
                                                            conv => whnf
                                                            refine And.intro (by with_reducible rfl) ?_
                                                            conv => whnf
                                                            refine And.intro (by with_reducible rfl) ?_
                                                            conv => whnf
                                                            refine And.intro (by with_reducible rfl) ?_
                                                            conv => whnf
                                                            refine And.intro (by with_reducible rfl) ?_
                                                            refine And.intro (by with_reducible rfl) ?_
                                                            conv => whnf
                                                            refine And.intro (by with_reducible rfl) ?_
                                                            conv => whnf
                                                            refine And.intro (by with_reducible rfl) ?_
                                                            conv => whnf
                                                            refine And.intro (by with_reducible rfl) ?_
                                                            conv => whnf
                                                            refine And.intro (by with_reducible rfl) ?_
                                                            conv => whnf
                                                            refine And.intro (by with_reducible rfl) ?_
                                                            conv => whnf
                                                            refine And.intro (by with_reducible rfl) ?_
                                                            conv => whnf
                                                            refine And.intro (by with_reducible rfl) ?_
                                                            conv => whnf
                                                            refine And.intro (by with_reducible rfl) ?_
                                                            conv => whnf
                                                            refine And.intro (by with_reducible rfl) ?_
                                                            conv => whnf
                                                            refine And.intro (by with_reducible rfl) ?_
                                                            refine And.intro (by with_reducible rfl) ?_
                                                            conv => whnf
                                                            refine And.intro (by with_reducible rfl) ?_
                                                            conv => whnf
                                                            refine And.intro (by with_reducible rfl) ?_
                                                            conv => whnf
                                                            refine And.intro (by with_reducible rfl) ?_
                                                            conv => whnf
                                                            refine And.intro (by with_reducible rfl) ?_
                                                            conv => whnf
                                                            refine And.intro (by with_reducible rfl) ?_
                                                            conv => whnf
                                                            refine And.intro (by with_reducible rfl) ?_
                                                            conv => whnf
                                                            refine And.intro (by with_reducible rfl) ?_
                                                            conv => whnf
                                                            refine And.intro (by with_reducible rfl) ?_
                                                            conv => whnf
                                                            refine And.intro (by with_reducible rfl) ?_
                                                            refine And.intro (by with_reducible rfl) ?_
                                                            conv => whnf
                                                            refine And.intro (by with_reducible rfl) ?_
                                                            conv => whnf
                                                            refine And.intro (by with_reducible rfl) ?_
                                                            conv => whnf
                                                            refine And.intro (by with_reducible rfl) ?_
                                                            conv => whnf
                                                            refine And.intro (by with_reducible rfl) ?_
                                                            conv => whnf
                                                            refine And.intro (by with_reducible rfl) ?_
                                                            conv => whnf
                                                            refine And.intro (by with_reducible rfl) ?_
                                                            conv => whnf
                                                            refine And.intro (by with_reducible rfl) ?_
                                                            conv => whnf
                                                            refine And.intro (by with_reducible rfl) ?_
                                                            conv => whnf
                                                            refine And.intro (by with_reducible rfl) ?_
                                                            refine And.intro (by with_reducible rfl) ?_
                                                            conv => whnf
                                                            refine And.intro (by with_reducible rfl) ?_
                                                            conv => whnf
                                                            refine And.intro (by with_reducible rfl) ?_
                                                            conv => whnf
                                                            refine And.intro (by with_reducible rfl) ?_
                                                            conv => whnf
                                                            refine And.intro (by with_reducible rfl) ?_
                                                            conv => whnf
                                                            refine And.intro (by with_reducible rfl) ?_
                                                            conv => whnf
                                                            refine And.intro (by with_reducible rfl) ?_
                                                            conv => whnf
                                                            refine And.intro (by with_reducible rfl) ?_
                                                            conv => whnf
                                                            refine And.intro (by with_reducible rfl) ?_
                                                            conv => whnf
                                                            refine And.intro (by with_reducible rfl) ?_
                                                            conv => whnf
                                                            refine And.intro (by with_reducible rfl) ?_
                                                            conv => whnf
                                                            refine And.intro (by with_reducible rfl) ?_
                                                            conv => whnf
                                                            refine And.intro (by with_reducible rfl) ?_
                                                            conv => whnf
                                                            refine And.intro (by with_reducible rfl) ?_
                                                            conv => whnf
                                                            refine And.intro (by with_reducible rfl) ?_
                                                            conv => whnf
                                                            refine And.intro (by with_reducible rfl) ?_
                                                            conv => whnf
                                                            refine And.intro (by with_reducible rfl) ?_
                                                            conv => whnf
                                                            refine And.intro (by with_reducible rfl) ?_
                                                            conv => whnf
                                                            refine And.intro (by with_reducible rfl) ?_
                                                            conv => whnf
                                                            refine And.intro (by with_reducible rfl) ?_
                                                            conv => whnf
                                                            refine And.intro (by with_reducible rfl) ?_
                                                            conv => whnf
                                                            refine And.intro (by with_reducible rfl) ?_
                                                            conv => whnf
                                                            refine And.intro (by with_reducible rfl) ?_
                                                            conv => whnf
                                                            refine And.intro (by with_reducible rfl) ?_
                                                            conv => whnf
                                                            refine And.intro (by with_reducible rfl) ?_
                                                            conv => whnf
                                                            refine And.intro (by with_reducible rfl) ?_
                                                            conv => whnf
                                                            refine And.intro (by with_reducible rfl) ?_
                                                            conv => whnf
                                                            refine And.intro (by with_reducible rfl) ?_
                                                            conv => whnf
                                                            refine And.intro (by with_reducible rfl) ?_
                                                            conv => whnf
                                                            refine And.intro (by with_reducible rfl) ?_
                                                            conv => whnf
                                                            refine And.intro (by with_reducible rfl) ?_
                                                            conv => whnf
                                                            refine And.intro (by with_reducible rfl) ?_
                                                            conv => whnf
                                                            refine And.intro (by with_reducible rfl) ?_
                                                            conv => whnf
                                                            refine And.intro (by with_reducible rfl) ?_
                                                            conv => whnf
                                                            refine And.intro (by with_reducible rfl) ?_
                                                            conv => whnf
                                                            refine And.intro (by with_reducible rfl) ?_
                                                            conv => whnf
                                                            refine And.intro (by with_reducible rfl) ?_
                                                            conv => whnf
                                                            refine And.intro (by with_reducible rfl) ?_
                                                            conv => whnf
                                                            refine And.intro (by with_reducible rfl) ?_
                                                            conv => whnf
                                                            refine And.intro (by with_reducible rfl) ?_
                                                            conv => whnf
                                                            refine And.intro (by with_reducible rfl) ?_
                                                            conv => whnf
                                                            refine And.intro (by with_reducible rfl) ?_
                                                            conv => whnf
                                                            refine And.intro (by with_reducible rfl) ?_
                                                            conv => whnf
                                                            refine And.intro (by with_reducible rfl) ?_
                                                            conv => whnf
                                                            refine And.intro (by with_reducible rfl) ?_
                                                            conv => whnf
                                                            refine And.intro (by with_reducible rfl) ?_
                                                            conv => whnf
                                                            refine And.intro (by with_reducible rfl) ?_
                                                            conv => whnf
                                                            refine And.intro (by with_reducible rfl) ?_
                                                            conv => whnf
                                                            refine And.intro (by with_reducible rfl) ?_
                                                            conv => whnf
                                                            refine And.intro (by with_reducible rfl) ?_
                                                            conv => whnf
                                                            refine And.intro (by with_reducible rfl) ?_
                                                            conv => whnf
                                                            refine And.intro (by with_reducible rfl) ?_
                                                            conv => whnf
                                                            refine And.intro (by with_reducible rfl) ?_
                                                            conv => whnf
                                                            refine And.intro (by with_reducible rfl) ?_
                                                            conv => whnf
                                                            refine And.intro (by with_reducible rfl) ?_
                                                            conv => whnf
                                                            refine And.intro (by with_reducible rfl) ?_
                                                            conv => whnf
                                                            refine And.intro (by with_reducible rfl) ?_
                                                            conv => whnf
                                                            refine And.intro (by with_reducible rfl) ?_
                                                            conv => whnf
                                                            refine And.intro (by with_reducible rfl) ?_
                                                            conv => whnf
                                                            refine And.intro (by with_reducible rfl) ?_
                                                            conv => whnf
                                                            refine And.intro (by with_reducible rfl) ?_
                                                            conv => whnf
                                                            refine And.intro (by with_reducible rfl) ?_
                                                            conv => whnf
                                                            refine And.intro (by (simp only [wrap_i64, wrap_u64, wrap_u32, wrap_u16, wrap_u8, maxLen_eq, mmI] at *; omega)) ?_
                                                            conv => whnf
                                                            refine And.intro (by with_reducible rfl) ?_
                                                            conv => whnf
                                                            refine And.intro (by with_reducible rfl) ?_
                                                            conv => whnf
                                                            refine And.intro (by with_reducible rfl) ?_
                                                            conv => whnf
                                                            refine And.intro (by with_reducible rfl) ?_
                                                            conv => whnf
                                                            refine And.intro (by with_reducible rfl) ?_
                                                            exact True.intro
                                                    · replace hc16 := of_decide_eq_false hc16
                                                      (exfalso; simp_all; done)
                                              · replace hc10 := of_decide_eq_false hc10
                                                conv => whnf
                                                refine And.intro (fun hc19 => ?_) (fun hc19 => ?_)
                                                · replace hc19 := of_decide_eq_false (Bool.not_eq_true' _ |>.mp hc19)
                                                  (exfalso; have h := mixL_cnt l s (eqFl x); have e1 : l.take j = l := take_end (by simp only [map_rows] at *; omega); have e2 : (mixL l s).take j = mixL l s := take_end (by simp only [map_rows] at *; omega); rw [e1, e2] at hc19; omega)
                                                · replace hc19 := of_decide_eq_true (Bool.not_eq_false' _ |>.mp hc19)
                                                  conv => whnf
                                                  refine ihl0 (i + 1) _ ?_ ?_ (st_of ?_)
                                                  · omega
                                                  · omega
                                                  · conv => whnf
                                                    refine And.intro (by with_reducible rfl) ?_
                                                    conv => whnf
                                                    refine And.intro (by with_reducible rfl) ?_
                                                    conv => whnf
                                                    refine And.intro (by with_reducible rfl) ?_
                                                    conv => whnf
                                                    refine And.intro (by with_reducible rfl) ?_
                                                    conv => whnf
                                                    refine And.intro (by with_reducible rfl) ?_
                                                    refine And.intro (by with_reducible rfl) ?_
                                                    conv => whnf
                                                    refine And.intro (by with_reducible rfl) ?_
                                                    conv => whnf
                                                    refine And.intro (by with_reducible rfl) ?_
                                                    conv => whnf
                                                    refine And.intro (by with_reducible rfl) ?_
                                                    conv => whnf
                                                    refine And.intro (by with_reducible rfl) ?_
                                                    conv => whnf
                                                    refine And.intro (by with_reducible rfl) ?_
                                                    conv => whnf
                                                    refine And.intro (by with_reducible rfl) ?_
                                                    conv => whnf
                                                    refine And.intro (by with_reducible rfl) ?_
                                                    conv => whnf
                                                    refine And.intro (by with_reducible rfl) ?_
                                                    conv => whnf
                                                    refine And.intro (by with_reducible rfl) ?_
                                                    conv => whnf
                                                    refine And.intro (by with_reducible rfl) ?_
                                                    conv => whnf
                                                    refine And.intro (by with_reducible rfl) ?_
                                                    conv => whnf
                                                    refine And.intro (by with_reducible rfl) ?_
                                                    conv => whnf
                                                    refine And.intro (by with_reducible rfl) ?_
                                                    conv => whnf
                                                    refine And.intro (by with_reducible rfl) ?_
                                                    conv => whnf
                                                    refine And.intro (by with_reducible rfl) ?_
                                                    conv => whnf
                                                    refine And.intro (by with_reducible rfl) ?_
                                                    conv => whnf
                                                    refine And.intro (by with_reducible rfl) ?_
                                                    conv => whnf
                                                    refine And.intro (by with_reducible rfl) ?_
                                                    conv => whnf
                                                    refine And.intro (by with_reducible rfl) ?_
                                                    conv => whnf
                                                    refine And.intro (by with_reducible rfl) ?_
                                                    conv => whnf
                                                    refine And.intro (by with_reducible rfl) ?_
                                                    conv => whnf
                                                    refine And.intro (by with_reducible rfl) ?_
                                                    conv => whnf
                                                    refine And.intro (by with_reducible rfl) ?_
                                                    conv => whnf
                                                    refine And.intro (by with_reducible rfl) ?_
                                                    refine And.intro (by with_reducible rfl) ?_
                                                    conv => whnf
                                                    refine And.intro (by with_reducible rfl) ?_
                                                    conv => whnf
                                                    refine And.intro (by with_reducible rfl) ?_
                                                    conv => whnf
                                                    refine And.intro (by with_reducible rfl) ?_
                                                    conv => whnf
                                                    refine And.intro (by with_reducible rfl) ?_
                                                    conv => whnf
                                                    refine And.intro (by with_reducible rfl) ?_
                                                    conv => whnf
                                                    refine And.intro (by with_reducible rfl) ?_
                                                    conv => whnf
                                                    refine And.intro (by with_reducible rfl) ?_
                                                    conv => whnf
                                                    refine And.intro (by with_reducible rfl) ?_
                                                    conv => whnf
                                                    refine And.intro (by with_reducible rfl) ?_
                                                    conv => whnf
                                                    refine And.intro (by with_reducible rfl) ?_
                                                    refine And.intro (by with_reducible rfl) ?_
                                                    conv => whnf
                                                    refine And.intro (by with_reducible rfl) ?_
                                                    conv => whnf
                                                    refine And.intro (by with_reducible rfl) ?_
                                                    conv => whnf
                                                    refine And.intro (by with_reducible rfl) ?_
                                                    conv => whnf
                                                    refine And.intro (by with_reducible rfl) ?_
                                                    conv => whnf
                                                    refine And.intro (by with_reducible rfl) ?_
                                                    conv => whnf
                                                    refine And.intro (by with_reducible rfl) ?_
                                                    conv => whnf
                                                    refine And.intro (by with_reducible rfl) ?_
                                                    conv => whnf
                                                    refine And.intro (by with_reducible rfl) ?_
                                                    conv => whnf
                                                    refine And.intro (by with_reducible rfl) ?_
                                                    refine And.intro (by with_reducible rfl) ?_
                                                    conv => whnf
                                                    refine And.intro (by with_reducible rfl) ?_
                                                    conv => whnf
                                                    refine And.intro (by with_reducible rfl) ?_
                                                    conv => whnf
                                                    refine And.intro (by with_reducible rfl) ?_
                                                    conv => whnf
                                                    refine And.intro (by with_reducible rfl) ?_
                                                    conv => whnf
                                                    refine And.intro (by with_reducible rfl) ?_
                                                    conv => whnf
                                                    refine And.intro (by with_reducible rfl) ?_
                                                    conv => whnf
                                                    refine And.intro (by with_reducible rfl) ?_
                                                    conv => whnf
                                                    refine And.intro (by with_reducible rfl) ?_
                                                    conv => whnf
                                                    refine And.intro (by with_reducible rfl) ?_
                                                    refine And.intro (by with_reducible rfl) ?_
                                                    conv => whnf
                                                    refine And.intro (by with_reducible rfl) ?_
                                                    conv => whnf
                                                    refine And.intro (by with_reducible rfl) ?_
                                                    conv => whnf
                                                    refine And.intro (by with_reducible rfl) ?_
                                                    conv => whnf
                                                    refine And.intro (by with_reducible rfl) ?_
                                                    conv => whnf
                                                    refine And.intro (by with_reducible rfl) ?_
                                                    conv => whnf
                                                    refine And.intro (by with_reducible rfl) ?_
                                                    conv => whnf
                                                    refine And.intro (by with_reducible rfl) ?_
                                                    conv => whnf
                                                    refine And.intro (by with_reducible rfl) ?_
                                                    conv => whnf
                                                    refine And.intro (by with_reducible rfl) ?_
                                                    conv => whnf
                                                    refine And.intro (by with_reducible rfl) ?_
                                                    conv => whnf
                                                    refine And.intro (by with_reducible rfl) ?_
                                                    conv => whnf
                                                    refine And.intro (by with_reducible rfl) ?_
                                                    conv => whnf
                                                    refine And.intro (by with_reducible rfl) ?_
                                                    conv => whnf
                                                    refine And.intro (by with_reducible rfl) ?_
                                                    conv => whnf
                                                    refine And.intro (by with_reducible rfl) ?_
                                                    conv => whnf
                                                    refine And.intro (by with_reducible rfl) ?_
                                                    conv => whnf
                                                    refine And.intro (by with_reducible rfl) ?_
                                                    conv => whnf
                                                    refine And.intro (by with_reducible rfl) ?_
                                                    conv => whnf
                                                    refine And.intro (by with_reducible rfl) ?_
                                                    conv => whnf
                                                    refine And.intro (by with_reducible rfl) ?_
                                                    conv => whnf
                                                    refine And.intro (by with_reducible rfl) ?_
                                                    conv => whnf
                                                    refine And.intro (by with_reducible rfl) ?_
                                                    conv => whnf
                                                    refine And.intro (by with_reducible rfl) ?_
                                                    conv => whnf
                                                    refine And.intro (by with_reducible rfl) ?_
                                                    conv => whnf
                                                    refine And.intro (by with_reducible rfl) ?_
                                                    conv => whnf
                                                    refine And.intro (by with_reducible rfl) ?_
                                                    conv => whnf
                                                    refine And.intro (by with_reducible rfl) ?_
                                                    conv => whnf
                                                    refine And.intro (by with_reducible rfl) ?_
                                                    conv => whnf
                                                    refine And.intro (by with_reducible rfl) ?_
                                                    conv => whnf
                                                    refine And.intro (by with_reducible rfl) ?_
                                                    conv => whnf
                                                    refine And.intro (by with_reducible rfl) ?_
                                                    conv => whnf
                                                    refine And.intro (by with_reducible rfl) ?_
                                                    conv => whnf
                                                    refine And.intro (by with_reducible rfl) ?_
                                                    conv => whnf
                                                    refine And.intro (by with_reducible rfl) ?_
                                                    conv => whnf
                                                    refine And.intro (by with_reducible rfl) ?_
                                                    conv => whnf
                                                    refine And.intro (by with_reducible rfl) ?_
                                                    conv => whnf
                                                    refine And.intro (by with_reducible rfl) ?_
                                                    conv => whnf
                                                    refine And.intro (by with_reducible rfl) ?_
                                                    conv => whnf
                                                    refine And.intro (by with_reducible rfl) ?_
                                                    conv => whnf
                                                    refine And.intro (by with_reducible rfl) ?_
                                                    conv => whnf
                                                    refine And.intro (by with_reducible rfl) ?_
                                                    conv => whnf
                                                    refine And.intro (by with_reducible rfl) ?_
                                                    conv => whnf
                                                    refine And.intro (by with_reducible rfl) ?_
                                                    conv => whnf
                                                    refine And.intro (by with_reducible rfl) ?_
                                                    conv => whnf
                                                    refine And.intro (by with_reducible rfl) ?_
                                                    conv => whnf
                                                    refine And.intro (by with_reducible rfl) ?_
                                                    conv => whnf
                                                    refine And.intro (by with_reducible rfl) ?_
                                                    conv => whnf
                                                    refine And.intro (by with_reducible rfl) ?_
                                                    conv => whnf
                                                    refine And.intro (by with_reducible rfl) ?_
                                                    conv => whnf
                                                    refine And.intro (by with_reducible rfl) ?_
                                                    conv => whnf
                                                    refine And.intro (by with_reducible rfl) ?_
                                                    conv => whnf
                                                    refine And.intro (by with_reducible rfl) ?_
                                                    conv => whnf
                                                    refine And.intro (by with_reducible rfl) ?_
                                                    conv => whnf
                                                    refine And.intro (by (simp only [wrap_i64, wrap_u64, wrap_u32, wrap_u16, wrap_u8, maxLen_eq, mmI] at *; omega)) ?_
                                                    conv => whnf
                                                    refine And.intro (by with_reducible rfl) ?_
                                                    conv => whnf
                                                    refine And.intro (by with_reducible rfl) ?_
                                                    exact True.intro
                                        · replace hc8 := of_decide_eq_false hc8
                                          conv => whnf
                                          refine ⟨_, lose_good _ _ _ ?_, ?_⟩
                                          · (simp only [map_rows] at *; omega)
                                          · conv => whnf
                                            refine ⟨_, lose_good _ _ _ ?_, ?_⟩
                                            · (simp only [map_rows] at *; omega)
                                            · conv => whnf
                                              refine And.intro (fun hc20 => ?_) (fun hc20 => ?_)
                                              · replace hc20 := of_decide_eq_true hc20
                                                conv => whnf
                                                refine br_l rfl rfl ?_
                                                conv => whnf
                                                refine br_l rfl rfl ?_
                                                conv => whnf
                                                refine And.intro (fun hc21 => ?_) (fun hc21 => ?_)
                                                · replace hc21 := of_decide_eq_true hc21
                                                  conv => whnf
                                                  refine br_l rfl rfl ?_
                                                  conv => whnf
                                                  refine br_l rfl rfl ?_
                                                  conv => whnf
                                                  refine br_l rfl rfl ?_
                                                  conv => whnf
                                                  refine br_l rfl rfl ?_
                                                  conv => whnf
                                                  refine And.intro (fun hc22 => ?_) (fun hc22 => ?_)
                                                  · replace hc22 := of_decide_eq_true hc22
                                                    conv => whnf
                                                    refine ⟨_, awake40_good, ?_⟩
                                                    conv => whnf
                                                    refine br_l rfl rfl ?_
                                                    conv => whnf
                                                    refine AV.of_eqv ?_
                                                    conv => whnf
                                                    refine And.intro (by with_reducible rfl) ?_
                                                    exact True.intro
                                                  · replace hc22 := of_decide_eq_false hc22
                                                    (exfalso; have h0 := congrArg List.length (losF_0 0 (by omega) l s); have h8 := congrArg List.length (losF_8 8 (by omega) l s); simp only [map_rows, List.length_nil] at *; omega)
                                                · replace hc21 := of_decide_eq_false hc21
                                                  (exfalso; have h0 := congrArg List.length (losF_0 0 (by omega) l s); have h8 := congrArg List.length (losF_8 8 (by omega) l s); simp only [map_rows, List.length_nil] at *; omega)
                                              · replace hc20 := of_decide_eq_false hc20
                                                (exfalso; simp_all; done)
                                  · replace hc6 := of_decide_eq_false (Bool.not_eq_true' _ |>.mp hc6)
                                    (exfalso; have := split_len b l; have := losF_len a l s; simp only [map_rows, wrap_i64] at *; omega)
                                · replace hc5 := of_decide_eq_false (Bool.not_eq_true' _ |>.mp hc5)
                                  contradiction
                            · replace hc4 := of_decide_eq_false (Bool.not_eq_true' _ |>.mp hc4)
                              contradiction
                        · replace hc3 := of_decide_eq_false (Bool.not_eq_true' _ |>.mp hc3)
                          contradiction
                      · replace hc2 := of_decide_eq_false (Bool.not_eq_true' _ |>.mp hc2)
                        contradiction
                  · replace hc1 := of_decide_eq_false (Bool.not_eq_true' _ |>.mp hc1)
                    contradiction
end Go.Proofs.Ytmchbkmenokkdaa

/- The law WindowGaps: the law itself. -/
import Derived.Test.YtkcdeefnkbbacaaW16g
set_option maxRecDepth 100000
set_option linter.unusedSimpArgs false
set_option linter.unusedVariables false
namespace Go.Proofs.Ytkcdeefnkbbacaa
open Go.RowKit
set_option maxHeartbeats 4000000
def rng : Int → Nat → List Int
  | _, 0 => []
  | a, k + 1 => a :: rng (a + 1) k
def gps : Int → List Int → List Int
  | _, [] => []
  | n, x :: r => rng n (x - n).toNat ++ gps (x + 1) r
theorem mem_rng : ∀ (k : Nat) (a x : Int), x ∈ rng a k ↔ a ≤ x ∧ x < a + k
  | 0, a, x => by simp [rng] <;> omega
  | k + 1, a, x => by rw [rng, List.mem_cons, mem_rng k (a + 1) x]; omega
theorem rng_rise : ∀ (k : Nat) (a : Int), (rng a k).Pairwise (· < ·)
  | 0, _ => List.Pairwise.nil
  | k + 1, a => List.pairwise_cons.2 ⟨fun y hy => by have := (mem_rng k (a + 1) y).1 hy; omega, rng_rise k (a + 1)⟩
theorem mem_gps : ∀ (A : List Int) (n x : Int), A.Pairwise (· < ·) → (∀ y ∈ A, n ≤ y) → (x ∈ gps n A ↔ n ≤ x ∧ ¬ x ∈ A ∧ ∃ y ∈ A, x < y)
  | [], n, x, _, _ => by simp [gps]
  | a :: r, n, x, hp, hn => by
    have hc := List.pairwise_cons.1 hp
    have ha := hn a (by simp)
    rw [gps, List.mem_append, mem_rng, mem_gps r (a + 1) x hc.2 fun y hy => by have := hc.1 y hy; omega]
    constructor
    · rintro (h | ⟨h1, h2, y, hy, h3⟩)
      · refine ⟨h.1, fun hx => ?_, a, by simp, by omega⟩
        rcases List.mem_cons.1 hx with rfl | hx
        · omega
        · have := hc.1 x hx; omega
      · refine ⟨by omega, fun hx => ?_, y, by simp [hy], h3⟩
        rcases List.mem_cons.1 hx with rfl | hx
        · omega
        · exact h2 hx
    · rintro ⟨h1, h2, y, hy, h3⟩
      by_cases h : x < a
      · exact .inl ⟨h1, by omega⟩
      · refine .inr ⟨?_, fun hx => h2 (by simp [hx]), ?_⟩
        · have : x ≠ a := fun e => h2 (by simp [e])
          omega
        · rcases List.mem_cons.1 hy with rfl | hy
          · omega
          · exact ⟨y, hy, h3⟩
theorem gps_rise : ∀ (A : List Int) (n : Int), A.Pairwise (· < ·) → (∀ y ∈ A, n ≤ y) → (gps n A).Pairwise (· < ·)
  | [], _, _, _ => List.Pairwise.nil
  | a :: r, n, hp, hn => by
    have hc := List.pairwise_cons.1 hp
    have hr : ∀ y ∈ r, a + 1 ≤ y := fun y hy => by have := hc.1 y hy; omega
    rw [gps]
    refine List.pairwise_append.2 ⟨rng_rise _ _, gps_rise r (a + 1) hc.2 hr, fun x hx y hy => ?_⟩
    have h1 := (mem_rng _ _ x).1 hx
    have h2 := (mem_gps r (a + 1) y hc.2 hr).1 hy
    have := hn a (by simp)
    omega
theorem rise_ext : ∀ {a b : List Int}, a.Pairwise (· < ·) → b.Pairwise (· < ·) → (∀ x, x ∈ a ↔ x ∈ b) → a = b
  | [], [], _, _, _ => rfl
  | [], y :: b, _, _, h => by have := (h y).2 (by simp); cases this
  | x :: a, [], _, _, h => by have := (h x).1 (by simp); cases this
  | x :: a, y :: b, ha, hb, h => by
    have hca := List.pairwise_cons.1 ha
    have hcb := List.pairwise_cons.1 hb
    have e : x = y := by
      have h1 := (h x).1 (by simp)
      have h2 := (h y).2 (by simp)
      rcases List.mem_cons.1 h1 with h1 | h1
      · exact h1
      · rcases List.mem_cons.1 h2 with h2 | h2
        · exact h2.symm
        · have := hca.1 y h2; have := hcb.1 x h1; omega
    subst e
    congr 1
    refine rise_ext hca.2 hcb.2 fun z => ⟨fun hz => ?_, fun hz => ?_⟩
    · rcases List.mem_cons.1 ((h z).1 (by simp [hz])) with rfl | hz'
      · exact absurd (hca.1 z hz) (by omega)
      · exact hz'
    · rcases List.mem_cons.1 ((h z).2 (by simp [hz])) with rfl | hz'
      · exact absurd (hcb.1 z hz) (by omega)
      · exact hz'
theorem ms_rise (n : Int) (l : List Int) (k : Nat) : (msI n l k).Pairwise (· < ·) := by
  unfold msI
  rw [List.pairwise_map]
  exact (List.pairwise_lt_range.filter _).imp fun h => by omega
theorem miss_gps {n : Int} {A : List Int} (h : WInv n A) : missI n A = gps n A := by
  have hn : rtN n := ⟨h.1, by have := h.2.1; omega⟩
  have hge : ∀ y ∈ A, n ≤ y := fun y hy => by have := h.2.2.2 y hy; omega
  rw [show missI n A = msI n A 8 from if_pos hn]
  refine rise_ext (ms_rise n A 8) (gps_rise A n h.2.2.1 hge) fun x => ?_
  rw [mem_gps A n x h.2.2.1 hge]
  unfold msI
  simp only [List.mem_map, List.mem_filter, List.mem_range]
  constructor
  · rintro ⟨j, ⟨hj, hp⟩, rfl⟩
    unfold msP at hp
    rw [Bool.and_eq_true, top_any A _ (by have := h.1; omega)] at hp
    obtain ⟨h1, h2⟩ := hp
    obtain ⟨y, hy, hy2⟩ := List.any_eq_true.1 h1
    have hy2 := of_decide_eq_true hy2
    refine ⟨by omega, fun hx => ?_, y, hy, hy2.1⟩
    have : (A.any fun x => decide (rtN x ∧ x = n + (j : Int))) = true := List.any_eq_true.2 ⟨_, hx, decide_eq_true ⟨by have := h.2.2.2 _ hx; have := h.1; omega, rfl⟩⟩
    rw [this] at h2
    cases h2
  · rintro ⟨h1, h2, y, hy, h3⟩
    have hb := h.2.2.2 y hy
    have h0 := h.1
    refine ⟨(x - n).toNat, ⟨by omega, ?_⟩, by omega⟩
    unfold msP
    rw [Bool.and_eq_true, top_any A _ (by omega)]
    refine ⟨List.any_eq_true.2 ⟨y, hy, decide_eq_true ⟨by omega, by omega⟩⟩, ?_⟩
    rw [Bool.not_eq_true']
    refine Bool.eq_false_iff.2 fun hh => ?_
    obtain ⟨z, hz, hz2⟩ := List.any_eq_true.1 hh
    have hz2 := of_decide_eq_true hz2
    exact h2 (by rw [show x = z by omega]; exact hz)
def lastI (n : Int) (l : List Int) : Int := l.foldl (fun _ x => x + 1) n
theorem run_gps : ∀ (L : List Int) (m : Int), gps m L = gps (m + (runL m L).1.length) (runL m L).2 ∧ lastI m L = lastI (m + (runL m L).1.length) (runL m L).2
  | [], m => by simp [runL, gps, lastI]
  | x :: r, m => by
    by_cases h : x = m
    · have e : runL m (x :: r) = (x :: (runL (m + 1) r).1, (runL (m + 1) r).2) := if_pos h
      obtain ⟨h1, h2⟩ := run_gps r (m + 1)
      rw [e]
      have e2 : m + ((x :: (runL (m + 1) r).1).length : Int) = m + 1 + ((runL (m + 1) r).1.length : Int) := by rw [List.length_cons]; omega
      refine ⟨?_, ?_⟩
      · show gps m (x :: r) = gps (m + ((x :: (runL (m + 1) r).1).length : Int)) _
        rw [e2, ← h1, gps, h]
        simp [rng]
      · show lastI m (x :: r) = lastI (m + ((x :: (runL (m + 1) r).1).length : Int)) _
        rw [e2, ← h2, h]; rfl
    · have e : runL m (x :: r) = ([], x :: r) := if_neg h
      rw [e]
      simp
theorem gap_step {n : Int} {A T : List Int} {g : Int} (h : WInv n A) (hg : missI n A = g :: T) : 0 ≤ g ∧ g ≤ 31 ∧ (takeI n A g).2.2.2 = 0 ∧ missI (takeI n A g).1 (takeI n A g).2.1 = T ∧ lastI (takeI n A g).1 (takeI n A g).2.1 = lastI n A ∧ WInv (takeI n A g).1 (takeI n A g).2.1 := by
  rw [miss_gps h] at hg
  cases A with
  | nil => cases hg
  | cons x r =>
    have hx := h.2.2.2 x (by simp)
    have h0 := h.1
    obtain ⟨k, hk⟩ : ∃ k, (x - n).toNat = k + 1 := ⟨(x - n).toNat - 1, by omega⟩
    have e1 : gps n (x :: r) = n :: gps (n + 1) (x :: r) := by
      rw [gps, gps, hk, show (x - (n + 1)).toNat = k by omega]; rfl
    rw [e1] at hg
    obtain ⟨rfl, rfl⟩ := List.cons.inj hg
    have hni : ¬ n ∈ x :: r := fun hh => by have := h.2.2.2 n hh; omega
    have ht := take_new (n := n) (l := x :: r) (p := n) (by omega) (by omega) (by omega) hni
    have hput : putI (x :: r) n = n :: x :: r := by rw [putI_ins]; exact if_pos hx.1
    have hrun : runL n (n :: x :: r) = (n :: (runL (n + 1) (x :: r)).1, (runL (n + 1) (x :: r)).2) := if_pos rfl
    obtain ⟨g1, g2⟩ := run_gps (x :: r) (n + 1)
    have hok := (tk_ok h (p := n) (by omega)).inv
    have e2 : (takeI n (x :: r) n).1 = n + 1 + ((runL (n + 1) (x :: r)).1.length : Int) := by
      rw [ht, hput, hrun]
      show n + ((n :: (runL (n + 1) (x :: r)).1).length : Int) = _
      rw [List.length_cons]; omega
    have e3 : (takeI n (x :: r) n).2.1 = (runL (n + 1) (x :: r)).2 := by rw [ht, hput, hrun]
    refine ⟨h0, by omega, by rw [ht], ?_, ?_, hok⟩
    · rw [miss_gps hok, e2, e3, ← g1]
    · rw [e2, e3, ← g2]; rfl
theorem gap_end {n : Int} {A : List Int} (h : WInv n A) (hg : missI n A = []) : A = [] := by
  rw [miss_gps h] at hg
  cases A with
  | nil => rfl
  | cons x r =>
    have hx := h.2.2.2 x (by simp)
    have h1 := (mem_gps (x :: r) n n h.2.2.1 (fun y hy => by have := h.2.2.2 y hy; omega)).2 ⟨Int.le_refl _, fun hh => by have := h.2.2.2 n hh; omega, x, by simp, hx.1⟩
    rw [hg] at h1
    cases h1
abbrev m15 (x : Int) : Int := IntKind.i64.wrap (((BitVec.ofInt IntKind.i64.bits x &&& BitVec.ofInt IntKind.i64.bits 15).toNat : Nat) : Int)
theorem m15_b (x : Int) : 0 ≤ m15 x ∧ m15 x ≤ 31 := by
  have e : (BitVec.ofInt IntKind.i64.bits 15).toNat = 15 := by decide
  have hle : (BitVec.ofInt IntKind.i64.bits x &&& BitVec.ofInt IntKind.i64.bits 15).toNat ≤ 15 := by rw [BitVec.toNat_and, e]; exact Nat.and_le_right
  unfold m15
  rw [wrap_i64]; omega
theorem room_0 (n : Int) : Good Try.prog 68 [.agg [.int .i64 n, .sl .sh 8 []]] (.int .i64 8) := (room_good n [] (by simp)).eq rfl
theorem room_e {n : Int} {B : List Int} (hB : ((B.map pn).length : Int) = 0) : Good Try.prog 68 [eW n B] (.int .i64 8) := by
  rw [map_rows] at hB
  obtain rfl : B = [] := List.eq_nil_of_length_eq_zero (by omega)
  exact room_0 n
theorem miss_len (n : Int) (l : List Int) : (missI n l).length ≤ 8 := by
  unfold missI
  split
  · exact ms_len n l 8
  · simp
theorem ex_row_k {α : Type} {f : α → List AV} {l : List α} {i : Nat} {y : α} {K : List AV → Prop} (hy : l[i]? = some y) (h : K (f y)) : ∃ c, (l.map f)[i]? = some c ∧ K c :=
  ⟨f y, by rw [List.getElem?_map, hy]; rfl, h⟩
def GInv (n : Int) (A : List Int) (k : Nat) (p : Int) (B : List Int) : Prop := k ≤ (missI n A).length ∧ WInv p B ∧ missI p B = (missI n A).drop k ∧ lastI p B = lastI n A
theorem g_zero {n : Int} {A : List Int} (h : WInv n A) : GInv n A 0 n A := ⟨Nat.zero_le _, h, rfl, rfl⟩
theorem g_at {n p g : Int} {A B : List Int} {k : Nat} (h : GInv n A k p B) (hg : (missI n A)[k]? = some g) : missI p B = g :: (missI n A).drop (k + 1) := by rw [h.2.2.1, drop_at hg]
theorem g_ok {n p g : Int} {A B : List Int} {k : Nat} (h : GInv n A k p B) (hg : (missI n A)[k]? = some g) : (takeI p B g).2.2.2 = 0 := (gap_step h.2.1 (g_at h hg)).2.2.1
theorem g_next {n p g : Int} {A B : List Int} {k : Nat} (h : GInv n A k p B) (hg : (missI n A)[k]? = some g) : GInv n A (k + 1) (takeI p B g).1 (takeI p B g).2.1 := by
  obtain ⟨_, _, _, h1, h2, h3⟩ := gap_step h.2.1 (g_at h hg)
  exact ⟨lt_at hg, h3, h1, h2.trans h.2.2.2⟩
theorem g_nil {n p : Int} {A B : List Int} {k : Nat} (h : GInv n A k p B) (hk : ¬ k < (missI n A).length) : B = [] :=
  gap_end h.2.1 (by rw [h.2.2.1, List.drop_of_length_le (by omega)])
theorem g_len {n p : Int} {A B : List Int} {k : Nat} (h : GInv n A k p B) (hk : ¬ (k : Int) < (((missI n A).map i1).length : Int)) : ((B.map pn).length : Int) = 0 := by
  rw [g_nil h (by rw [map_rows] at hk; omega)]; rfl
theorem g_last {n p : Int} {A B : List Int} {k j : Nat} (h : GInv n A k p B) (hk : ¬ (k : Int) < (((missI n A).map i1).length : Int)) (hj : ¬ (j : Int) < ((A.map pn).length : Int)) : p = lastI n (A.take j) := by
  have e := h.2.2.2
  rw [g_nil h (by rw [map_rows] at hk; omega)] at e
  rw [take_end (by rw [map_rows] at hj; omega)]
  exact e
theorem last_at {n : Int} {A : List Int} {j : Nat} {x : Int} (hx : A[j]? = some x) : lastI n (A.take (j + 1)) = x + 1 := by
  unfold lastI; rw [take_at hx, List.foldl_append]; rfl
theorem windowGaps_good (n0 : Int) (l0 : List Qt) (l : List Int) : Good Try.prog 13 [eV n0 l0, .sl .sh 1 (l.map i1)] (.bool true) := by
  refine Good.assume fun hfit => ?_
  have hl0 : l0.length ≤ 9223372036854775807 := by
    have h1 := (hfit (eV n0 l0) (by simp)).agg (.sl .sh 8 (l0.map qt)) (by simp)
    have h2 := h1.sl.1
    rw [List.length_map] at h2; exact h2
  by_cases hL : longL l0 = true
  · have hlg := long16_good l0 hl0
    rw [hL] at hlg
    apply good_at ak13 rfl rfl rfl
    conv => whnf
    refine ⟨_, hlg, ?_⟩
    conv => whnf
    refine br_r rfl rfl ?_
    conv => whnf
    refine br_r rfl rfl ?_
    conv => whnf
    refine br_r rfl rfl ?_
    conv => whnf
    refine br_l rfl rfl ?_
    conv => whnf
    refine br_l rfl rfl ?_
    conv => whnf
    refine ⟨_, awake16_good, ?_⟩
    conv => whnf
    refine AV.of_eqv ?_
    conv => whnf
    refine And.intro (by with_reducible rfl) ?_
    exact True.intro
  · have hL : longL l0 = false := by simpa using hL
    have hlg := long16_good l0 hl0
    rw [hL] at hlg
    have hlen : l0.length ≤ 60 := by unfold longL at hL; simp at hL; omega
    apply good_at ak13 rfl rfl rfl
    conv => whnf
    refine ⟨_, hlg, ?_⟩
    conv => whnf
    refine br_l rfl rfl ?_
    conv => whnf
    refine br_l rfl rfl ?_
    conv => whnf
    refine br_l rfl rfl ?_
    conv => whnf
    refine br_r rfl rfl ?_
    conv => whnf
    refine And.intro (fun hc0 => ?_) (fun hc0 => ?_)
    · replace hc0 := of_decide_eq_true hc0
      conv => whnf
      refine ⟨_, awake16_good, ?_⟩
      conv => whnf
      refine AV.of_eqv ?_
      conv => whnf
      refine And.intro (by with_reducible rfl) ?_
      exact True.intro
    · replace hc0 := of_decide_eq_false hc0
      conv => whnf
      refine And.intro (by exact rfl) ?_
      conv => whnf
      refine ⟨_, (wgaps_good n0 l0) ?_, ?_⟩
      · omega
      · conv => whnf
        refine ⟨_, (rwgaps_good n0 l0) ?_, ?_⟩
        · omega
        · conv => whnf
          refine And.intro (by exact rfl) ?_
          conv => whnf
          refine And.intro (fun hc1 => ?_) (fun hc1 => ?_)
          · replace hc1 := of_decide_eq_true (Bool.not_eq_false' _ |>.mp hc1)
            conv => whnf
            refine br_l rfl rfl ?_
            conv => whnf
            refine ⟨_, (room_good n0 l0) ?_, ?_⟩
            · omega
            · conv => whnf
              refine br_l rfl rfl ?_
              conv => whnf
              refine br_l rfl rfl ?_
              conv => whnf
              refine ⟨_, (rroom_good n0 l0) ?_, ?_⟩
              · omega
              · conv => whnf
                refine br_l rfl rfl ?_
                conv => whnf
                refine br_r rfl rfl ?_
                conv => whnf
                refine And.intro (fun hc2 => ?_) (fun hc2 => ?_)
                · replace hc2 := of_decide_eq_false (Bool.not_eq_true' _ |>.mp hc2)
                  contradiction
                · replace hc2 := of_decide_eq_true (Bool.not_eq_false' _ |>.mp hc2)
                  conv => whnf
                  refine loop_at (α := Nat) [] (fun i => [(46, .int .i64 (i : Int))]) (fun i => []) (fun i => i ≤ (missI n0 (l0.map qs)).length) (fun i => (missI n0 (l0.map qs)).length - i) (0) (st_of ?_) ?_ (by rintro i _; rfl) ?_
                  · conv => whnf
                    refine And.intro (by with_reducible rfl) ?_
                    conv => whnf
                    refine And.intro (by with_reducible rfl) ?_
                    conv => whnf
                    refine And.intro (by with_reducible rfl) ?_
                    conv => whnf
                    refine And.intro (by with_reducible rfl) ?_
                    refine And.intro (by with_reducible rfl) ?_
                    conv => whnf
                    refine And.intro (by with_reducible rfl) ?_
                    conv => whnf
                    refine And.intro (by with_reducible rfl) ?_
                    conv => whnf
                    refine And.intro (by with_reducible rfl) ?_
                    refine And.intro (by with_reducible rfl) ?_
                    conv => whnf
                    refine And.intro (by with_reducible rfl) ?_
                    conv => whnf
                    refine And.intro (by with_reducible rfl) ?_
                    conv => whnf
                    refine And.intro (by with_reducible rfl) ?_
                    conv => whnf
                    refine And.intro (by with_reducible rfl) ?_
                    conv => whnf
                    refine And.intro (by with_reducible rfl) ?_
                    conv => whnf
                    refine And.intro (by with_reducible rfl) ?_
                    conv => whnf
                    refine And.intro (by with_reducible rfl) ?_
                    conv => whnf
                    refine And.intro (by with_reducible rfl) ?_
                    conv => whnf
                    refine And.intro (by with_reducible rfl) ?_
                    conv => whnf
                    refine And.intro (by with_reducible rfl) ?_
                    conv => whnf
                    refine And.intro (by with_reducible rfl) ?_
                    conv => whnf
                    refine And.intro (by with_reducible rfl) ?_
                    conv => whnf
                    refine And.intro (by with_reducible rfl) ?_
                    conv => whnf
                    refine And.intro (by with_reducible rfl) ?_
                    conv => whnf
                    refine And.intro (by with_reducible rfl) ?_
                    conv => whnf
                    refine And.intro (by with_reducible rfl) ?_
                    conv => whnf
                    refine And.intro (by with_reducible rfl) ?_
                    conv => whnf
                    refine And.intro (by with_reducible rfl) ?_
                    conv => whnf
                    refine And.intro (by with_reducible rfl) ?_
                    conv => whnf
                    refine And.intro (by with_reducible rfl) ?_
                    conv => whnf
                    refine And.intro (by with_reducible rfl) ?_
                    conv => whnf
                    refine And.intro (by with_reducible rfl) ?_
                    conv => whnf
                    refine And.intro (by with_reducible rfl) ?_
                    conv => whnf
                    refine And.intro (by with_reducible rfl) ?_
                    conv => whnf
                    refine And.intro (by with_reducible rfl) ?_
                    conv => whnf
                    refine And.intro (by with_reducible rfl) ?_
                    conv => whnf
                    refine And.intro (by with_reducible rfl) ?_
                    conv => whnf
                    refine And.intro (by with_reducible rfl) ?_
                    conv => whnf
                    refine And.intro (by with_reducible rfl) ?_
                    conv => whnf
                    refine And.intro (by decide) ?_
                    conv => whnf
                    refine And.intro (by with_reducible rfl) ?_
                    conv => whnf
                    refine And.intro (by with_reducible rfl) ?_
                    exact True.intro
                  · omega
                  · rintro i nextl0 hIl0 ihl0
                    try dsimp only at hIl0
                    conv => whnf
                    refine And.intro (fun hc3 => ?_) (fun hc3 => ?_)
                    · replace hc3 := of_decide_eq_true hc3
                      conv => whnf
                      refine And.intro (by exact rfl) ?_
                      conv => whnf
                      refine And.intro (by omega) ?_
                      refine ex_row (l := missI n0 (l0.map qs)) ?_ fun y hy => ?_
                      · (simp only [map_rows] at *; omega)
                      · simp only [toNat_ofNat] at hy
                        conv => whnf
                        refine And.intro (by omega) ?_
                        refine ex_row_k (by assumption) ?_
                        conv => whnf
                        refine And.intro (fun hc6 => ?_) (fun hc6 => ?_)
                        · replace hc6 := of_decide_eq_false (Bool.not_eq_true' _ |>.mp hc6)
                          contradiction
                        · replace hc6 := of_decide_eq_true (Bool.not_eq_false' _ |>.mp hc6)
                          conv => whnf
                          refine ihl0 (i + 1) _ ?_ ?_ (st_of ?_)
                          · (simp only [map_rows] at *; omega)
                          · (simp only [map_rows] at *; omega)
                          · conv => whnf
                            refine And.intro (by with_reducible rfl) ?_
                            conv => whnf
                            refine And.intro (by with_reducible rfl) ?_
                            conv => whnf
                            refine And.intro (by with_reducible rfl) ?_
                            conv => whnf
                            refine And.intro (by with_reducible rfl) ?_
                            refine And.intro (by with_reducible rfl) ?_
                            conv => whnf
                            refine And.intro (by with_reducible rfl) ?_
                            conv => whnf
                            refine And.intro (by with_reducible rfl) ?_
                            conv => whnf
                            refine And.intro (by with_reducible rfl) ?_
                            refine And.intro (by with_reducible rfl) ?_
                            conv => whnf
                            refine And.intro (by with_reducible rfl) ?_
                            conv => whnf
                            refine And.intro (by with_reducible rfl) ?_
                            conv => whnf
                            refine And.intro (by with_reducible rfl) ?_
                            conv => whnf
                            refine And.intro (by with_reducible rfl) ?_
                            conv => whnf
                            refine And.intro (by with_reducible rfl) ?_
                            conv => whnf
                            refine And.intro (by with_reducible rfl) ?_
                            conv => whnf
                            refine And.intro (by with_reducible rfl) ?_
                            conv => whnf
                            refine And.intro (by with_reducible rfl) ?_
                            conv => whnf
                            refine And.intro (by with_reducible rfl) ?_
                            conv => whnf
                            refine And.intro (by with_reducible rfl) ?_
                            conv => whnf
                            refine And.intro (by with_reducible rfl) ?_
                            conv => whnf
                            refine And.intro (by with_reducible rfl) ?_
                            conv => whnf
                            refine And.intro (by with_reducible rfl) ?_
                            conv => whnf
                            refine And.intro (by with_reducible rfl) ?_
                            conv => whnf
                            refine And.intro (by with_reducible rfl) ?_
                            conv => whnf
                            refine And.intro (by with_reducible rfl) ?_
                            conv => whnf
                            refine And.intro (by with_reducible rfl) ?_
                            conv => whnf
                            refine And.intro (by with_reducible rfl) ?_
                            conv => whnf
                            refine And.intro (by with_reducible rfl) ?_
                            conv => whnf
                            refine And.intro (by with_reducible rfl) ?_
                            conv => whnf
                            refine And.intro (by with_reducible rfl) ?_
                            conv => whnf
                            refine And.intro (by with_reducible rfl) ?_
                            conv => whnf
                            refine And.intro (by with_reducible rfl) ?_
                            conv => whnf
                            refine And.intro (by with_reducible rfl) ?_
                            conv => whnf
                            refine And.intro (by with_reducible rfl) ?_
                            conv => whnf
                            refine And.intro (by with_reducible rfl) ?_
                            conv => whnf
                            refine And.intro (by with_reducible rfl) ?_
                            conv => whnf
                            refine And.intro (by with_reducible rfl) ?_
                            conv => whnf
                            refine And.intro (by with_reducible rfl) ?_
                            conv => whnf
                            refine And.intro (by (have := lt_at hy; have := miss_len n0 (l0.map qs); rw [wrap_i64]; omega)) ?_
                            conv => whnf
                            refine And.intro (by with_reducible rfl) ?_
                            conv => whnf
                            refine And.intro (by with_reducible rfl) ?_
                            exact True.intro
                    · replace hc3 := of_decide_eq_false hc3
                      conv => whnf
                      refine ⟨_, new16_good, ?_⟩
                      conv => whnf
                      refine loop_at (α := Nat × Int × List Int) [] (fun ⟨u, n, A⟩ => [(62, .int .i64 (u : Int))]) (fun ⟨u, n, A⟩ => [(1, some ⟨true, 2, [[.int .i64 n, .sl .sh 8 (A.map pn)]]⟩)]) (fun ⟨u, n, A⟩ => u ≤ l.length ∧ WInv n A) (fun ⟨u, n, A⟩ => l.length - u) ((0, 0, [])) (st_of ?_) ?_ (by rintro ⟨u, n, A⟩ _; rfl) ?_
                      · conv => whnf
                        refine And.intro (by with_reducible rfl) ?_
                        conv => whnf
                        refine And.intro (by with_reducible rfl) ?_
                        conv => whnf
                        refine And.intro (by with_reducible rfl) ?_
                        conv => whnf
                        refine And.intro (by with_reducible rfl) ?_
                        refine And.intro (by with_reducible rfl) ?_
                        conv => whnf
                        refine And.intro (by with_reducible rfl) ?_
                        conv => whnf
                        refine And.intro (by with_reducible rfl) ?_
                        conv => whnf
                        refine And.intro (by with_reducible rfl) ?_
                        refine And.intro (by with_reducible rfl) ?_
                        conv => whnf
                        refine And.intro (by with_reducible rfl) ?_
                        refine And.intro (by with_reducible rfl) ?_
                        conv => whnf
                        refine And.intro (by with_reducible rfl) ?_
                        conv => whnf
                        refine And.intro (by with_reducible rfl) ?_
                        conv => whnf
                        refine And.intro (by with_reducible rfl) ?_
                        conv => whnf
                        refine And.intro (by with_reducible rfl) ?_
                        conv => whnf
                        refine And.intro (by with_reducible rfl) ?_
                        conv => whnf
                        refine And.intro (by with_reducible rfl) ?_
                        conv => whnf
                        refine And.intro (by with_reducible rfl) ?_
                        conv => whnf
                        refine And.intro (by with_reducible rfl) ?_
                        conv => whnf
                        refine And.intro (by with_reducible rfl) ?_
                        conv => whnf
                        refine And.intro (by with_reducible rfl) ?_
                        conv => whnf
                        refine And.intro (by with_reducible rfl) ?_
                        conv => whnf
                        refine And.intro (by with_reducible rfl) ?_
                        conv => whnf
                        refine And.intro (by with_reducible rfl) ?_
                        conv => whnf
                        refine And.intro (by with_reducible rfl) ?_
                        conv => whnf
                        refine And.intro (by with_reducible rfl) ?_
                        conv => whnf
                        refine And.intro (by with_reducible rfl) ?_
                        conv => whnf
                        refine And.intro (by with_reducible rfl) ?_
                        conv => whnf
                        refine And.intro (by with_reducible rfl) ?_
                        conv => whnf
                        refine And.intro (by with_reducible rfl) ?_
                        conv => whnf
                        refine And.intro (by with_reducible rfl) ?_
                        conv => whnf
                        refine And.intro (by with_reducible rfl) ?_
                        conv => whnf
                        refine And.intro (by with_reducible rfl) ?_
                        conv => whnf
                        refine And.intro (by with_reducible rfl) ?_
                        conv => whnf
                        refine And.intro (by with_reducible rfl) ?_
                        conv => whnf
                        refine And.intro (by with_reducible rfl) ?_
                        conv => whnf
                        refine And.intro (by with_reducible rfl) ?_
                        conv => whnf
                        refine And.intro (by with_reducible rfl) ?_
                        conv => whnf
                        refine And.intro (by with_reducible rfl) ?_
                        conv => whnf
                        refine And.intro (by with_reducible rfl) ?_
                        conv => whnf
                        refine And.intro (by with_reducible rfl) ?_
                        conv => whnf
                        refine And.intro (by with_reducible rfl) ?_
                        conv => whnf
                        refine And.intro (by with_reducible rfl) ?_
                        conv => whnf
                        refine And.intro (by with_reducible rfl) ?_
                        conv => whnf
                        refine And.intro (by with_reducible rfl) ?_
                        conv => whnf
                        refine And.intro (by with_reducible rfl) ?_
                        conv => whnf
                        refine And.intro (by decide) ?_
                        conv => whnf
                        refine And.intro (by with_reducible rfl) ?_
                        conv => whnf
                        refine And.intro (by with_reducible rfl) ?_
                        conv => whnf
                        refine And.intro (by with_reducible rfl) ?_
                        conv => whnf
                        refine And.intro (by decide) ?_
                        exact True.intro
                      · dsimp only
                        (exact ⟨Nat.zero_le _, winv0⟩)
                      · rintro ⟨u, n, A⟩ nextl1 hIl1 ihl1
                        try dsimp only at hIl1
                        conv => whnf
                        refine And.intro (fun hc7 => ?_) (fun hc7 => ?_)
                        · replace hc7 := of_decide_eq_true hc7
                          conv => whnf
                          refine And.intro (by omega) ?_
                          refine ex_row (l := l) ?_ fun x hx => ?_
                          · (simp only [map_rows] at *; omega)
                          · simp only [toNat_ofNat] at hx
                            conv => whnf
                            refine And.intro (by exact rfl) ?_
                            conv => whnf
                            refine ⟨_, numbered_good _, ?_⟩
                            conv => whnf
                            refine ⟨_, (wtake_good n A (m15 x)) ?_, ?_⟩
                            · (have := hIl1.2.len; omega)
                            · conv => whnf
                              refine ihl1 ((u + 1, (takeI n A (m15 x)).1, (takeI n A (m15 x)).2.1)) _ ?_ ?_ (st_of ?_)
                              · dsimp only
                                (have := lt_at hx; exact ⟨by omega, (tk_ok hIl1.2 (m15_b x)).inv⟩)
                              · dsimp only
                                (simp only [map_rows] at *; omega)
                              · conv => whnf
                                refine And.intro (by with_reducible rfl) ?_
                                conv => whnf
                                refine And.intro (by with_reducible rfl) ?_
                                conv => whnf
                                refine And.intro (by with_reducible rfl) ?_
                                conv => whnf
                                refine And.intro (by with_reducible rfl) ?_
                                refine And.intro (by with_reducible rfl) ?_
                                conv => whnf
                                refine And.intro (by with_reducible rfl) ?_
                                conv => whnf
                                refine And.intro (by with_reducible rfl) ?_
                                conv => whnf
                                refine And.intro (by with_reducible rfl) ?_
                                refine And.intro (by with_reducible rfl) ?_
                                conv => whnf
                                refine And.intro (by with_reducible rfl) ?_
                                refine And.intro (by with_reducible rfl) ?_
                                conv => whnf
                                refine And.intro (by with_reducible rfl) ?_
                                conv => whnf
                                refine And.intro (by with_reducible rfl) ?_
                                conv => whnf
                                refine And.intro (by with_reducible rfl) ?_
                                conv => whnf
                                refine And.intro (by with_reducible rfl) ?_
                                conv => whnf
                                refine And.intro (by with_reducible rfl) ?_
                                conv => whnf
                                refine And.intro (by with_reducible rfl) ?_
                                conv => whnf
                                refine And.intro (by with_reducible rfl) ?_
                                conv => whnf
                                refine And.intro (by with_reducible rfl) ?_
                                conv => whnf
                                refine And.intro (by with_reducible rfl) ?_
                                conv => whnf
                                refine And.intro (by with_reducible rfl) ?_
                                conv => whnf
                                refine And.intro (by with_reducible rfl) ?_
                                conv => whnf
                                refine And.intro (by with_reducible rfl) ?_
                                conv => whnf
                                refine And.intro (by with_reducible rfl) ?_
                                conv => whnf
                                refine And.intro (by with_reducible rfl) ?_
                                conv => whnf
                                refine And.intro (by with_reducible rfl) ?_
                                conv => whnf
                                refine And.intro (by with_reducible rfl) ?_
                                conv => whnf
                                refine And.intro (by with_reducible rfl) ?_
                                conv => whnf
                                refine And.intro (by with_reducible rfl) ?_
                                conv => whnf
                                refine And.intro (by with_reducible rfl) ?_
                                conv => whnf
                                refine And.intro (by with_reducible rfl) ?_
                                conv => whnf
                                refine And.intro (by with_reducible rfl) ?_
                                conv => whnf
                                refine And.intro (by with_reducible rfl) ?_
                                conv => whnf
                                refine And.intro (by with_reducible rfl) ?_
                                conv => whnf
                                refine And.intro (by with_reducible rfl) ?_
                                conv => whnf
                                refine And.intro (by with_reducible rfl) ?_
                                conv => whnf
                                refine And.intro (by with_reducible rfl) ?_
                                conv => whnf
                                refine And.intro (by with_reducible rfl) ?_
                                conv => whnf
                                refine And.intro (by with_reducible rfl) ?_
                                conv => whnf
                                refine And.intro (by with_reducible rfl) ?_
                                conv => whnf
                                refine And.intro (by with_reducible rfl) ?_
                                conv => whnf
                                refine And.intro (by with_reducible rfl) ?_
                                conv => whnf
                                refine And.intro (by with_reducible rfl) ?_
                                conv => whnf
                                refine And.intro (by with_reducible rfl) ?_
                                conv => whnf
                                refine And.intro (by with_reducible rfl) ?_
                                conv => whnf
                                refine And.intro (by with_reducible rfl) ?_
                                conv => whnf
                                refine And.intro (by (simp only [wrap_i64, wrap_u64, wrap_u32, wrap_u16, wrap_u8, maxLen_eq, mmI] at *; omega)) ?_
                                conv => whnf
                                refine And.intro (by with_reducible rfl) ?_
                                conv => whnf
                                refine And.intro (by with_reducible rfl) ?_
                                conv => whnf
                                refine And.intro (by with_reducible rfl) ?_
                                conv => whnf
                                refine And.intro (by with_reducible rfl) ?_
                                exact True.intro
                        · replace hc7 := of_decide_eq_false hc7
                          conv => whnf
                          refine loop_at (α := Nat) [] (fun j => [(81, .int .i64 (j : Int)), (11, .int .i64 (lastI n (A.take j)))]) (fun j => []) (fun j => j ≤ A.length) (fun j => A.length - j) (0) (st_of ?_) ?_ (by rintro j _; rfl) ?_
                          · conv => whnf
                            refine And.intro (by with_reducible rfl) ?_
                            conv => whnf
                            refine And.intro (by with_reducible rfl) ?_
                            conv => whnf
                            refine And.intro (by with_reducible rfl) ?_
                            conv => whnf
                            refine And.intro (by with_reducible rfl) ?_
                            refine And.intro (by with_reducible rfl) ?_
                            conv => whnf
                            refine And.intro (by with_reducible rfl) ?_
                            conv => whnf
                            refine And.intro (by with_reducible rfl) ?_
                            conv => whnf
                            refine And.intro (by with_reducible rfl) ?_
                            refine And.intro (by with_reducible rfl) ?_
                            conv => whnf
                            refine And.intro (by exact rfl) ?_
                            conv => whnf
                            refine And.intro (by with_reducible rfl) ?_
                            refine And.intro (by with_reducible rfl) ?_
                            conv => whnf
                            refine And.intro (by with_reducible rfl) ?_
                            conv => whnf
                            refine And.intro (by with_reducible rfl) ?_
                            conv => whnf
                            refine And.intro (by with_reducible rfl) ?_
                            conv => whnf
                            refine And.intro (by with_reducible rfl) ?_
                            conv => whnf
                            refine And.intro (by with_reducible rfl) ?_
                            conv => whnf
                            refine And.intro (by with_reducible rfl) ?_
                            conv => whnf
                            refine And.intro (by with_reducible rfl) ?_
                            conv => whnf
                            refine And.intro (by with_reducible rfl) ?_
                            conv => whnf
                            refine And.intro (by with_reducible rfl) ?_
                            conv => whnf
                            refine And.intro (by with_reducible rfl) ?_
                            conv => whnf
                            refine And.intro (by with_reducible rfl) ?_
                            conv => whnf
                            refine And.intro (by with_reducible rfl) ?_
                            conv => whnf
                            refine And.intro (by with_reducible rfl) ?_
                            conv => whnf
                            refine And.intro (by with_reducible rfl) ?_
                            conv => whnf
                            refine And.intro (by with_reducible rfl) ?_
                            conv => whnf
                            refine And.intro (by with_reducible rfl) ?_
                            conv => whnf
                            refine And.intro (by with_reducible rfl) ?_
                            conv => whnf
                            refine And.intro (by with_reducible rfl) ?_
                            conv => whnf
                            refine And.intro (by with_reducible rfl) ?_
                            conv => whnf
                            refine And.intro (by with_reducible rfl) ?_
                            conv => whnf
                            refine And.intro (by with_reducible rfl) ?_
                            conv => whnf
                            refine And.intro (by with_reducible rfl) ?_
                            conv => whnf
                            refine And.intro (by with_reducible rfl) ?_
                            conv => whnf
                            refine And.intro (by with_reducible rfl) ?_
                            conv => whnf
                            refine And.intro (by with_reducible rfl) ?_
                            conv => whnf
                            refine And.intro (by with_reducible rfl) ?_
                            conv => whnf
                            refine And.intro (by with_reducible rfl) ?_
                            conv => whnf
                            refine And.intro (by with_reducible rfl) ?_
                            conv => whnf
                            refine And.intro (by with_reducible rfl) ?_
                            conv => whnf
                            refine And.intro (by with_reducible rfl) ?_
                            conv => whnf
                            refine And.intro (by with_reducible rfl) ?_
                            conv => whnf
                            refine And.intro (by with_reducible rfl) ?_
                            conv => whnf
                            refine And.intro (by with_reducible rfl) ?_
                            conv => whnf
                            refine And.intro (by with_reducible rfl) ?_
                            conv => whnf
                            refine And.intro (by with_reducible rfl) ?_
                            conv => whnf
                            refine And.intro (by with_reducible rfl) ?_
                            conv => whnf
                            refine And.intro (by with_reducible rfl) ?_
                            conv => whnf
                            refine And.intro (by with_reducible rfl) ?_
                            refine And.intro (by with_reducible rfl) ?_
                            conv => whnf
                            refine And.intro (by with_reducible rfl) ?_
                            conv => whnf
                            refine And.intro (by with_reducible rfl) ?_
                            refine And.intro (by with_reducible rfl) ?_
                            conv => whnf
                            refine And.intro (by with_reducible rfl) ?_
                            conv => whnf
                            refine And.intro (by with_reducible rfl) ?_
                            conv => whnf
                            refine And.intro (by decide) ?_
                            conv => whnf
                            refine And.intro (by with_reducible rfl) ?_
                            conv => whnf
                            refine And.intro (by with_reducible rfl) ?_
                            conv => whnf
                            refine And.intro (by with_reducible rfl) ?_
                            conv => whnf
                            refine And.intro (by with_reducible rfl) ?_
                            exact True.intro
                          · omega
                          · rintro j nextl2 hIl2 ihl2
                            try dsimp only at hIl2
                            conv => whnf
                            refine And.intro (fun hc9 => ?_) (fun hc9 => ?_)
                            · replace hc9 := of_decide_eq_true hc9
                              conv => whnf
                              refine And.intro (by omega) ?_
                              refine ex_row (l := A) ?_ fun z hz => ?_
                              · (simp only [map_rows] at *; omega)
                              · simp only [toNat_ofNat] at hz
                                conv => whnf
                                refine ihl2 (j + 1) _ ?_ ?_ (st_of ?_)
                                · (simp only [map_rows] at *; omega)
                                · (simp only [map_rows] at *; omega)
                                · conv => whnf
                                  refine And.intro (by with_reducible rfl) ?_
                                  conv => whnf
                                  refine And.intro (by with_reducible rfl) ?_
                                  conv => whnf
                                  refine And.intro (by with_reducible rfl) ?_
                                  conv => whnf
                                  refine And.intro (by with_reducible rfl) ?_
                                  refine And.intro (by with_reducible rfl) ?_
                                  conv => whnf
                                  refine And.intro (by with_reducible rfl) ?_
                                  conv => whnf
                                  refine And.intro (by with_reducible rfl) ?_
                                  conv => whnf
                                  refine And.intro (by with_reducible rfl) ?_
                                  refine And.intro (by with_reducible rfl) ?_
                                  conv => whnf
                                  refine And.intro (by (have := hIl1.2.1; have := hIl1.2.2.2.2 z (List.mem_of_getElem? hz); rw [last_at hz, wrap_i64]; omega)) ?_
                                  conv => whnf
                                  refine And.intro (by with_reducible rfl) ?_
                                  refine And.intro (by with_reducible rfl) ?_
                                  conv => whnf
                                  refine And.intro (by with_reducible rfl) ?_
                                  conv => whnf
                                  refine And.intro (by with_reducible rfl) ?_
                                  conv => whnf
                                  refine And.intro (by with_reducible rfl) ?_
                                  conv => whnf
                                  refine And.intro (by with_reducible rfl) ?_
                                  conv => whnf
                                  refine And.intro (by with_reducible rfl) ?_
                                  conv => whnf
                                  refine And.intro (by with_reducible rfl) ?_
                                  conv => whnf
                                  refine And.intro (by with_reducible rfl) ?_
                                  conv => whnf
                                  refine And.intro (by with_reducible rfl) ?_
                                  conv => whnf
                                  refine And.intro (by with_reducible rfl) ?_
                                  conv => whnf
                                  refine And.intro (by with_reducible rfl) ?_
                                  conv => whnf
                                  refine And.intro (by with_reducible rfl) ?_
                                  conv => whnf
                                  refine And.intro (by with_reducible rfl) ?_
                                  conv => whnf
                                  refine And.intro (by with_reducible rfl) ?_
                                  conv => whnf
                                  refine And.intro (by with_reducible rfl) ?_
                                  conv => whnf
                                  refine And.intro (by with_reducible rfl) ?_
                                  conv => whnf
                                  refine And.intro (by with_reducible rfl) ?_
                                  conv => whnf
                                  refine And.intro (by with_reducible rfl) ?_
                                  conv => whnf
                                  refine And.intro (by with_reducible rfl) ?_
                                  conv => whnf
                                  refine And.intro (by with_reducible rfl) ?_
                                  conv => whnf
                                  refine And.intro (by with_reducible rfl) ?_
                                  conv => whnf
                                  refine And.intro (by with_reducible rfl) ?_
                                  conv => whnf
                                  refine And.intro (by with_reducible rfl) ?_
                                  conv => whnf
                                  refine And.intro (by with_reducible rfl) ?_
                                  conv => whnf
                                  refine And.intro (by with_reducible rfl) ?_
                                  conv => whnf
                                  refine And.intro (by with_reducible rfl) ?_
                                  conv => whnf
                                  refine And.intro (by with_reducible rfl) ?_
                                  conv => whnf
                                  refine And.intro (by with_reducible rfl) ?_
                                  conv => whnf
                                  refine And.intro (by with_reducible rfl) ?_
                                  conv => whnf
                                  refine And.intro (by with_reducible rfl) ?_
                                  conv => whnf
                                  refine And.intro (by with_reducible rfl) ?_
                                  conv => whnf
                                  refine And.intro (by with_reducible rfl) ?_
                                  conv => whnf
                                  refine And.intro (by with_reducible rfl) ?_
                                  conv => whnf
                                  refine And.intro (by with_reducible rfl) ?_
                                  conv => whnf
                                  refine And.intro (by with_reducible rfl) ?_
                                  conv => whnf
                                  refine And.intro (by with_reducible rfl) ?_
                                  conv => whnf
                                  refine And.intro (by with_reducible rfl) ?_
                                  conv => whnf
                                  refine And.intro (by with_reducible rfl) ?_
                                  conv => whnf
                                  refine And.intro (by with_reducible rfl) ?_
                                  refine And.intro (by with_reducible rfl) ?_
                                  conv => whnf
                                  refine And.intro (by with_reducible rfl) ?_
                                  conv => whnf
                                  refine And.intro (by with_reducible rfl) ?_
                                  refine And.intro (by with_reducible rfl) ?_
                                  conv => whnf
                                  refine And.intro (by with_reducible rfl) ?_
                                  conv => whnf
                                  refine And.intro (by with_reducible rfl) ?_
                                  conv => whnf
                                  refine And.intro (by (have := lt_at hz; have := hIl1.2.len; rw [wrap_i64]; omega)) ?_
                                  conv => whnf
                                  refine And.intro (by with_reducible rfl) ?_
                                  conv => whnf
                                  refine And.intro (by with_reducible rfl) ?_
                                  conv => whnf
                                  refine And.intro (by with_reducible rfl) ?_
                                  conv => whnf
                                  refine And.intro (by with_reducible rfl) ?_
                                  exact True.intro
                            · replace hc9 := of_decide_eq_false hc9
                              conv => whnf
                              refine ⟨_, (wgaps_pn n A) ?_, ?_⟩
                              · (have := hIl1.2.len; omega)
                              · conv => whnf
                                refine loop_at (α := Nat × Int × List Int) [] (fun ⟨k, p, B⟩ => [(92, .int .i64 (k : Int))]) (fun ⟨k, p, B⟩ => [(1, some ⟨true, 2, [[.int .i64 p, .sl .sh 8 (B.map pn)]]⟩)]) (fun ⟨k, p, B⟩ => GInv n A k p B) (fun ⟨k, p, B⟩ => (missI n A).length - k) ((0, n, A)) (st_of ?_) ?_ (by rintro ⟨k, p, B⟩ _; rfl) ?_
                                · conv => whnf
                                  refine And.intro (by with_reducible rfl) ?_
                                  conv => whnf
                                  refine And.intro (by with_reducible rfl) ?_
                                  conv => whnf
                                  refine And.intro (by with_reducible rfl) ?_
                                  conv => whnf
                                  refine And.intro (by with_reducible rfl) ?_
                                  refine And.intro (by with_reducible rfl) ?_
                                  conv => whnf
                                  refine And.intro (by with_reducible rfl) ?_
                                  conv => whnf
                                  refine And.intro (by with_reducible rfl) ?_
                                  conv => whnf
                                  refine And.intro (by with_reducible rfl) ?_
                                  refine And.intro (by with_reducible rfl) ?_
                                  conv => whnf
                                  refine And.intro (by with_reducible rfl) ?_
                                  conv => whnf
                                  refine And.intro (by with_reducible rfl) ?_
                                  refine And.intro (by with_reducible rfl) ?_
                                  conv => whnf
                                  refine And.intro (by with_reducible rfl) ?_
                                  conv => whnf
                                  refine And.intro (by with_reducible rfl) ?_
                                  conv => whnf
                                  refine And.intro (by with_reducible rfl) ?_
                                  conv => whnf
                                  refine And.intro (by with_reducible rfl) ?_
                                  conv => whnf
                                  refine And.intro (by with_reducible rfl) ?_
                                  conv => whnf
                                  refine And.intro (by with_reducible rfl) ?_
                                  conv => whnf
                                  refine And.intro (by with_reducible rfl) ?_
                                  conv => whnf
                                  refine And.intro (by with_reducible rfl) ?_
                                  conv => whnf
                                  refine And.intro (by with_reducible rfl) ?_
                                  conv => whnf
                                  refine And.intro (by with_reducible rfl) ?_
                                  conv => whnf
                                  refine And.intro (by with_reducible rfl) ?_
                                  conv => whnf
                                  refine And.intro (by with_reducible rfl) ?_
                                  conv => whnf
                                  refine And.intro (by with_reducible rfl) ?_
                                  conv => whnf
                                  refine And.intro (by with_reducible rfl) ?_
                                  conv => whnf
                                  refine And.intro (by with_reducible rfl) ?_
                                  conv => whnf
                                  refine And.intro (by with_reducible rfl) ?_
                                  conv => whnf
                                  refine And.intro (by with_reducible rfl) ?_
                                  conv => whnf
                                  refine And.intro (by with_reducible rfl) ?_
                                  conv => whnf
                                  refine And.intro (by with_reducible rfl) ?_
                                  conv => whnf
                                  refine And.intro (by with_reducible rfl) ?_
                                  conv => whnf
                                  refine And.intro (by with_reducible rfl) ?_
                                  conv => whnf
                                  refine And.intro (by with_reducible rfl) ?_
                                  conv => whnf
                                  refine And.intro (by with_reducible rfl) ?_
                                  conv => whnf
                                  refine And.intro (by with_reducible rfl) ?_
                                  conv => whnf
                                  refine And.intro (by with_reducible rfl) ?_
                                  conv => whnf
                                  refine And.intro (by with_reducible rfl) ?_
                                  conv => whnf
                                  refine And.intro (by with_reducible rfl) ?_
                                  conv => whnf
                                  refine And.intro (by with_reducible rfl) ?_
                                  conv => whnf
                                  refine And.intro (by with_reducible rfl) ?_
                                  conv => whnf
                                  refine And.intro (by with_reducible rfl) ?_
                                  conv => whnf
                                  refine And.intro (by with_reducible rfl) ?_
                                  conv => whnf
                                  refine And.intro (by with_reducible rfl) ?_
                                  conv => whnf
                                  refine And.intro (by with_reducible rfl) ?_
                                  conv => whnf
                                  refine And.intro (by with_reducible rfl) ?_
                                  conv => whnf
                                  refine And.intro (by with_reducible rfl) ?_
                                  conv => whnf
                                  refine And.intro (by with_reducible rfl) ?_
                                  conv => whnf
                                  refine And.intro (by with_reducible rfl) ?_
                                  conv => whnf
                                  refine And.intro (by with_reducible rfl) ?_
                                  refine And.intro (by with_reducible rfl) ?_
                                  conv => whnf
                                  refine And.intro (by with_reducible rfl) ?_
                                  conv => whnf
                                  refine And.intro (by with_reducible rfl) ?_
                                  refine And.intro (by with_reducible rfl) ?_
                                  conv => whnf
                                  refine And.intro (by with_reducible rfl) ?_
                                  conv => whnf
                                  refine And.intro (by with_reducible rfl) ?_
                                  conv => whnf
                                  refine And.intro (by with_reducible rfl) ?_
                                  conv => whnf
                                  refine And.intro (by with_reducible rfl) ?_
                                  conv => whnf
                                  refine And.intro (by with_reducible rfl) ?_
                                  conv => whnf
                                  refine And.intro (by with_reducible rfl) ?_
                                  conv => whnf
                                  refine And.intro (by with_reducible rfl) ?_
                                  conv => whnf
                                  refine And.intro (by with_reducible rfl) ?_
                                  conv => whnf
                                  refine And.intro (by decide) ?_
                                  conv => whnf
                                  refine And.intro (by with_reducible rfl) ?_
                                  conv => whnf
                                  refine And.intro (by with_reducible rfl) ?_
                                  conv => whnf
                                  refine And.intro (by with_reducible rfl) ?_
                                  conv => whnf
                                  refine And.intro (by with_reducible rfl) ?_
                                  exact True.intro
                                · dsimp only
                                  (exact g_zero hIl1.2)
                                · rintro ⟨k, p, B⟩ nextl3 hIl3 ihl3
                                  try dsimp only at hIl3
                                  conv => whnf
                                  refine And.intro (fun hc11 => ?_) (fun hc11 => ?_)
                                  · replace hc11 := of_decide_eq_true hc11
                                    conv => whnf
                                    refine And.intro (by omega) ?_
                                    refine ex_row (l := missI n A) ?_ fun g hg => ?_
                                    · (simp only [map_rows] at *; omega)
                                    · simp only [toNat_ofNat] at hg
                                      conv => whnf
                                      refine And.intro (by exact rfl) ?_
                                      conv => whnf
                                      refine ⟨_, numbered_good _, ?_⟩
                                      conv => whnf
                                      refine ⟨_, (wtake_good p B g) ?_, ?_⟩
                                      · (have := hIl3.2.1.len; omega)
                                      · conv => whnf
                                        refine And.intro (fun hc13 => ?_) (fun hc13 => ?_)
                                        · replace hc13 := of_decide_eq_false (Bool.not_eq_true' _ |>.mp hc13)
                                          (exact absurd (g_ok hIl3 hg) (by assumption))
                                        · replace hc13 := of_decide_eq_true (Bool.not_eq_false' _ |>.mp hc13)
                                          conv => whnf
                                          refine ihl3 ((k + 1, (takeI p B g).1, (takeI p B g).2.1)) _ ?_ ?_ (st_of ?_)
                                          · dsimp only
                                            (exact g_next hIl3 hg)
                                          · dsimp only
                                            (simp only [map_rows] at *; omega)
                                          · conv => whnf
                                            refine And.intro (by with_reducible rfl) ?_
                                            conv => whnf
                                            refine And.intro (by with_reducible rfl) ?_
                                            conv => whnf
                                            refine And.intro (by with_reducible rfl) ?_
                                            conv => whnf
                                            refine And.intro (by with_reducible rfl) ?_
                                            refine And.intro (by with_reducible rfl) ?_
                                            conv => whnf
                                            refine And.intro (by with_reducible rfl) ?_
                                            conv => whnf
                                            refine And.intro (by with_reducible rfl) ?_
                                            conv => whnf
                                            refine And.intro (by with_reducible rfl) ?_
                                            refine And.intro (by with_reducible rfl) ?_
                                            conv => whnf
                                            refine And.intro (by with_reducible rfl) ?_
                                            conv => whnf
                                            refine And.intro (by with_reducible rfl) ?_
                                            refine And.intro (by with_reducible rfl) ?_
                                            conv => whnf
                                            refine And.intro (by with_reducible rfl) ?_
                                            conv => whnf
                                            refine And.intro (by with_reducible rfl) ?_
                                            conv => whnf
                                            refine And.intro (by with_reducible rfl) ?_
                                            conv => whnf
                                            refine And.intro (by with_reducible rfl) ?_
                                            conv => whnf
                                            refine And.intro (by with_reducible rfl) ?_
                                            conv => whnf
                                            refine And.intro (by with_reducible rfl) ?_
                                            conv => whnf
                                            refine And.intro (by with_reducible rfl) ?_
                                            conv => whnf
                                            refine And.intro (by with_reducible rfl) ?_
                                            conv => whnf
                                            refine And.intro (by with_reducible rfl) ?_
                                            conv => whnf
                                            refine And.intro (by with_reducible rfl) ?_
                                            conv => whnf
                                            refine And.intro (by with_reducible rfl) ?_
                                            conv => whnf
                                            refine And.intro (by with_reducible rfl) ?_
                                            conv => whnf
                                            refine And.intro (by with_reducible rfl) ?_
                                            conv => whnf
                                            refine And.intro (by with_reducible rfl) ?_
                                            conv => whnf
                                            refine And.intro (by with_reducible rfl) ?_
                                            conv => whnf
                                            refine And.intro (by with_reducible rfl) ?_
                                            conv => whnf
                                            refine And.intro (by with_reducible rfl) ?_
                                            conv => whnf
                                            refine And.intro (by with_reducible rfl) ?_
                                            conv => whnf
                                            refine And.intro (by with_reducible rfl) ?_
                                            conv => whnf
                                            refine And.intro (by with_reducible rfl) ?_
                                            conv => whnf
                                            refine And.intro (by with_reducible rfl) ?_
                                            conv => whnf
                                            refine And.intro (by with_reducible rfl) ?_
                                            conv => whnf
                                            refine And.intro (by with_reducible rfl) ?_
                                            conv => whnf
                                            refine And.intro (by with_reducible rfl) ?_
                                            conv => whnf
                                            refine And.intro (by with_reducible rfl) ?_
                                            conv => whnf
                                            refine And.intro (by with_reducible rfl) ?_
                                            conv => whnf
                                            refine And.intro (by with_reducible rfl) ?_
                                            conv => whnf
                                            refine And.intro (by with_reducible rfl) ?_
                                            conv => whnf
                                            refine And.intro (by with_reducible rfl) ?_
                                            conv => whnf
                                            refine And.intro (by with_reducible rfl) ?_
                                            conv => whnf
                                            refine And.intro (by with_reducible rfl) ?_
                                            conv => whnf
                                            refine And.intro (by with_reducible rfl) ?_
                                            conv => whnf
                                            refine And.intro (by with_reducible rfl) ?_
                                            conv => whnf
                                            refine And.intro (by with_reducible rfl) ?_
                                            conv => whnf
                                            refine And.intro (by with_reducible rfl) ?_
                                            conv => whnf
                                            refine And.intro (by with_reducible rfl) ?_
                                            conv => whnf
                                            refine And.intro (by with_reducible rfl) ?_
                                            conv => whnf
                                            refine And.intro (by with_reducible rfl) ?_
                                            refine And.intro (by with_reducible rfl) ?_
                                            conv => whnf
                                            refine And.intro (by with_reducible rfl) ?_
                                            conv => whnf
                                            refine And.intro (by with_reducible rfl) ?_
                                            refine And.intro (by with_reducible rfl) ?_
                                            conv => whnf
                                            refine And.intro (by with_reducible rfl) ?_
                                            conv => whnf
                                            refine And.intro (by with_reducible rfl) ?_
                                            conv => whnf
                                            refine And.intro (by with_reducible rfl) ?_
                                            conv => whnf
                                            refine And.intro (by with_reducible rfl) ?_
                                            conv => whnf
                                            refine And.intro (by with_reducible rfl) ?_
                                            conv => whnf
                                            refine And.intro (by with_reducible rfl) ?_
                                            conv => whnf
                                            refine And.intro (by with_reducible rfl) ?_
                                            conv => whnf
                                            refine And.intro (by with_reducible rfl) ?_
                                            conv => whnf
                                            refine And.intro (by (have := lt_at hg; have := miss_len n A; rw [wrap_i64]; omega)) ?_
                                            conv => whnf
                                            refine And.intro (by with_reducible rfl) ?_
                                            conv => whnf
                                            refine And.intro (by with_reducible rfl) ?_
                                            conv => whnf
                                            refine And.intro (by with_reducible rfl) ?_
                                            conv => whnf
                                            refine And.intro (by with_reducible rfl) ?_
                                            exact True.intro
                                  · replace hc11 := of_decide_eq_false hc11
                                    conv => whnf
                                    refine And.intro (fun hc14 => ?_) (fun hc14 => ?_)
                                    · replace hc14 := of_decide_eq_true hc14
                                      conv => whnf
                                      refine br_l rfl rfl ?_
                                      conv => whnf
                                      refine br_l rfl rfl ?_
                                      conv => whnf
                                      refine br_l rfl rfl ?_
                                      conv => whnf
                                      refine br_l rfl rfl ?_
                                      conv => whnf
                                      refine And.intro (fun hc15 => ?_) (fun hc15 => ?_)
                                      · replace hc15 := of_decide_eq_true hc15
                                        conv => whnf
                                        refine br_l rfl rfl ?_
                                        conv => whnf
                                        refine ⟨_, room_e ?_, ?_⟩
                                        · assumption
                                        · conv => whnf
                                          refine br_l rfl rfl ?_
                                          conv => whnf
                                          refine br_l rfl rfl ?_
                                          conv => whnf
                                          refine br_l rfl rfl ?_
                                          conv => whnf
                                          refine ⟨_, awake16_good, ?_⟩
                                          conv => whnf
                                          refine br_l rfl rfl ?_
                                          conv => whnf
                                          refine AV.of_eqv ?_
                                          conv => whnf
                                          refine And.intro (by with_reducible rfl) ?_
                                          exact True.intro
                                      · replace hc15 := of_decide_eq_false hc15
                                        (exact absurd (g_last hIl3 (by assumption) (by assumption)) (by assumption))
                                    · replace hc14 := of_decide_eq_false hc14
                                      (exact absurd (g_len hIl3 (by assumption)) (by assumption))
          · replace hc1 := of_decide_eq_false (Bool.not_eq_true' _ |>.mp hc1)
            contradiction
end Go.Proofs.Ytkcdeefnkbbacaa

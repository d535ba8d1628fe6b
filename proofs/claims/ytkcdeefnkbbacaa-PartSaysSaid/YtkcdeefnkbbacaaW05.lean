/- The document's numbers and pairs in bytes: their contracts. -/
import Derived.Test.YtkcdeefnkbbacaaW01
import Derived.Test.YtkcdeefnkbbacaaW05c
set_option maxRecDepth 100000
set_option linter.unusedSimpArgs false
set_option linter.unusedVariables false
namespace Go.Proofs.Ytkcdeefnkbbacaa
open Go.RowKit
set_option maxHeartbeats 4000000
theorem ex_byteI {v : Int} {K : By → Prop} (h0 : 0 ≤ v) (h1 : v < 256) (h : K [UInt8.ofNat v.toNat]) : ∃ s : By, [[AV.int .u8 v]] = bytesAV s ∧ s.length ≤ maxLen ∧ K s := by
  refine ⟨[UInt8.ofNat v.toNat], ?_, by simp [maxLen], h⟩
  have e : (UInt8.ofNat v.toNat).toNat = v.toNat := by
    rw [UInt8.toNat_ofNat']
    exact Nat.mod_eq_of_lt (by omega)
  simp only [bytesAV, List.map_cons, List.map_nil, e]
  rw [Int.toNat_of_nonneg h0]
theorem u8_b (v : Int) : 0 ≤ IntKind.u8.wrap v ∧ IntKind.u8.wrap v < 256 := by rw [wrap_u8]; omega
/-- the byte number i of a number -/
def byt (x i : Int) : Int := IntKind.u8.wrap (x.fdiv (2 ^ (min (IntKind.u64.wrap (IntKind.i64.wrap (8 * i))).toNat IntKind.u64.bits)))
theorem byt_nb {x : Int} (h0 : 0 ≤ x) (m : Nat) (hm : m ≤ 7) : (byt x m).toNat = shr8 x.toNat m % 256 := by
  obtain ⟨n, rfl⟩ := Int.eq_ofNat_of_zero_le h0
  unfold byt shr8
  have e1 : (IntKind.u64.wrap (IntKind.i64.wrap (8 * (m : Int)))).toNat = 8 * m := by rw [wrap_i64, wrap_u64]; omega
  have e2 : min (8 * m) IntKind.u64.bits = 8 * m := Nat.min_eq_left (by show _ ≤ 64; omega)
  have e3 : (2 : Int) ^ (8 * m) = ((256 ^ m : Nat) : Int) := by rw [Int.pow_mul]; norm_cast
  rw [e1, e2, e3, Int.fdiv_eq_ediv_of_nonneg _ (Int.natCast_nonneg _), wrap_u8]
  norm_cast
theorem nb_step {x : Int} (h0 : 0 ≤ x) (i : Int) (hi : 0 ≤ i) (hi7 : i ≤ 7) {out r : By} (h : out ++ numB x.toNat (i + 1).toNat = r) : (out ++ [UInt8.ofNat (byt x i).toNat]) ++ numB x.toNat (i - 1 + 1).toNat = r := by
  obtain ⟨m, rfl⟩ := Int.eq_ofNat_of_zero_le hi
  rw [byt_nb h0 m (by omega)]
  rw [show ((m : Int) + 1).toNat = m + 1 by omega] at h
  rw [show ((m : Int) - 1 + 1).toNat = m by omega, ← h]
  simp [numB]
theorem rnum_good (x : Int) (k : Int) (c : Nat) (h0 : 0 ≤ x) (_h1 : x ≤ 18446744073709551615) (hk : k = c) (hc : c ≤ 8) : Good Try.prog 80 [.int .u64 x, .int .i64 k] (.str (nb x c)) := by
  subst hk
  have hS : IntKind.i64.wrap (mmI true 0 (mmI false (c : Int) 8) - 1) = (c : Int) - 1 := by simp only [wrap_i64, mmI]; omega
  apply good_at ak80 rfl rfl rfl
  conv => whnf
  refine loop_at (α := Int × By) [] (fun ⟨i, out⟩ => [(6, .int .i64 i), (5, .str out)]) (fun ⟨i, out⟩ => []) (fun ⟨i, out⟩ => -1 ≤ i ∧ i < c ∧ out.length + (i + 1).toNat = c ∧ out ++ numB x.toNat (i + 1).toNat = numB x.toNat c) (fun ⟨i, out⟩ => (i + 1).toNat) ((IntKind.i64.wrap (mmI true 0 (mmI false (c : Int) 8) - 1), [])) (st_of ?_) ?_ (by rintro ⟨i, out⟩ _; rfl) ?_
  · conv => whnf
    refine And.intro (by with_reducible rfl) ?_
    conv => whnf
    refine And.intro (by with_reducible rfl) ?_
    conv => whnf
    refine And.intro (by with_reducible rfl) ?_
    conv => whnf
    refine And.intro (by with_reducible rfl) ?_
    conv => whnf
    refine And.intro (by with_reducible rfl) ?_
    conv => whnf
    refine And.intro (by with_reducible rfl) ?_
    conv => whnf
    refine And.intro (by with_reducible rfl) ?_
    conv => whnf
    refine And.intro (by with_reducible rfl) ?_
    conv => whnf
    refine And.intro (by with_reducible rfl) ?_
    exact True.intro
  · dsimp only
    (rw [hS]; exact ⟨by omega, by omega, by simp, by rw [show ((c : Int) - 1 + 1).toNat = c by omega]; rfl⟩)
  · rintro ⟨i, out⟩ nextl0 hIl0 ihl0
    try dsimp only at hIl0
    conv => whnf
    refine And.intro (fun hc0 => ?_) (fun hc0 => ?_)
    · replace hc0 := of_decide_eq_true hc0
      conv => whnf
      refine And.intro (by (simp only [wrap_i64, wrap_u64, wrap_u32, wrap_u16, wrap_u8, maxLen_eq, mmI] at *; omega)) ?_
      conv => whnf
      refine And.intro (by with_reducible rfl) ?_
      refine ex_byteI (u8_b _).1 (u8_b _).2 ?_
      conv => whnf
      refine And.intro (by (simp only [wrap_i64, mmI, maxLen_eq, List.length_append, List.length_cons, List.length_nil] at *; omega)) ?_
      conv => whnf
      refine ihl0 ((i - 1, out ++ [UInt8.ofNat (byt x i).toNat])) _ ?_ ?_ (st_of ?_)
      · dsimp only
        (exact ⟨by omega, by omega, by simp only [List.length_append, List.length_cons, List.length_nil]; omega, nb_step h0 i (by omega) (by omega) hIl0.2.2.2⟩)
      · dsimp only
        omega
      · conv => whnf
        refine And.intro (by with_reducible rfl) ?_
        conv => whnf
        refine And.intro (by with_reducible rfl) ?_
        conv => whnf
        refine And.intro (by with_reducible rfl) ?_
        conv => whnf
        refine And.intro (by exact rfl) ?_
        conv => whnf
        refine And.intro (by (simp only [wrap_i64, mmI, maxLen_eq, List.length_append, List.length_cons, List.length_nil] at *; omega)) ?_
        conv => whnf
        refine And.intro (by with_reducible rfl) ?_
        conv => whnf
        refine And.intro (by with_reducible rfl) ?_
        conv => whnf
        refine And.intro (by with_reducible rfl) ?_
        conv => whnf
        refine And.intro (by with_reducible rfl) ?_
        exact True.intro
    · replace hc0 := of_decide_eq_false hc0
      conv => whnf
      refine AV.of_eqv ?_
      conv => whnf
      refine And.intro (by (rw [show ((i : Int) + 1).toNat = 0 by omega] at hIl0; simpa [numB, nb] using hIl0.2.2.2)) ?_
      exact True.intro
theorem valB_step {l : By} {i : Nat} {b : UInt8} (h : l[i]? = some b) (acc : Nat) : valB acc (l.take (i + 1)) = valB acc (l.take i) * 256 + b.toNat := by
  rw [take_at h, valB_snoc]
theorem rtake_ok (l : By) (k : Int) (c : Nat) (hk : k = c) (hc : c ≤ 8) (hl : c ≤ l.length) : Good Try.prog 85 [.str l, .int .i64 k] (.tuple [.int .u64 (valB 0 (l.take c) : Nat), .str (l.drop c), .int .i64 0]) := by
  subst hk
  have hb := fun i : Nat => valB_le (l.take i)
  apply good_at ak85 rfl rfl rfl
  conv => whnf
  refine br_l rfl rfl ?_
  conv => whnf
  refine br_l rfl rfl ?_
  conv => whnf
  refine br_r rfl rfl ?_
  conv => whnf
  refine And.intro (fun hc0 => ?_) (fun hc0 => ?_)
  · replace hc0 := of_decide_eq_true hc0
    (exfalso; omega)
  · replace hc0 := of_decide_eq_false hc0
    conv => whnf
    refine And.intro (fun hc1 => ?_) (fun hc1 => ?_)
    · replace hc1 := of_decide_eq_true hc1
      (exfalso; omega)
    · replace hc1 := of_decide_eq_false hc1
      conv => whnf
      refine loop_at (α := Nat) [] (fun i => [(20, .int .i64 (i : Int)), (7, .int .u64 ((valB 0 (l.take i) : Nat) : Int))]) (fun i => []) (fun i => i ≤ c) (fun i => c - i) (0) (st_of ?_) ?_ (by rintro i _; rfl) ?_
      · conv => whnf
        refine And.intro (by with_reducible rfl) ?_
        conv => whnf
        refine And.intro (by with_reducible rfl) ?_
        conv => whnf
        refine And.intro (by with_reducible rfl) ?_
        conv => whnf
        refine And.intro (by with_reducible rfl) ?_
        conv => whnf
        refine And.intro (by with_reducible rfl) ?_
        conv => whnf
        refine And.intro (by exact rfl) ?_
        conv => whnf
        refine And.intro (by with_reducible rfl) ?_
        conv => whnf
        refine And.intro (by with_reducible rfl) ?_
        conv => whnf
        refine And.intro (by with_reducible rfl) ?_
        conv => whnf
        refine And.intro (by with_reducible rfl) ?_
        conv => whnf
        refine And.intro (by with_reducible rfl) ?_
        conv => whnf
        refine And.intro (by with_reducible rfl) ?_
        conv => whnf
        refine And.intro (by with_reducible rfl) ?_
        conv => whnf
        refine And.intro (by with_reducible rfl) ?_
        conv => whnf
        refine And.intro (by with_reducible rfl) ?_
        conv => whnf
        refine And.intro (by with_reducible rfl) ?_
        conv => whnf
        refine And.intro (by with_reducible rfl) ?_
        conv => whnf
        refine And.intro (by decide) ?_
        exact True.intro
      · omega
      · rintro i nextl0 hIl0 ihl0
        try dsimp only at hIl0
        conv => whnf
        refine And.intro (fun hc2 => ?_) (fun hc2 => ?_)
        · replace hc2 := of_decide_eq_true hc2
          conv => whnf
          refine And.intro (by omega) ?_
          refine ex_at (l := l) ?_ fun b hb' => ?_
          · omega
          · simp only [toNat_ofNat] at hb'
            conv => whnf
            refine ihl0 (i + 1) _ ?_ ?_ (st_of ?_)
            · omega
            · omega
            · conv => whnf
              refine And.intro (by with_reducible rfl) ?_
              conv => whnf
              refine And.intro (by with_reducible rfl) ?_
              conv => whnf
              refine And.intro (by with_reducible rfl) ?_
              conv => whnf
              refine And.intro (by with_reducible rfl) ?_
              conv => whnf
              refine And.intro (by with_reducible rfl) ?_
              conv => whnf
              refine And.intro (by (have e := valB_step hb' 0; have := b.toNat_lt; have h8 := hb (i + 1) (by simp; omega); simp only [wrap_u64]; omega)) ?_
              conv => whnf
              refine And.intro (by with_reducible rfl) ?_
              conv => whnf
              refine And.intro (by with_reducible rfl) ?_
              conv => whnf
              refine And.intro (by with_reducible rfl) ?_
              conv => whnf
              refine And.intro (by with_reducible rfl) ?_
              conv => whnf
              refine And.intro (by with_reducible rfl) ?_
              conv => whnf
              refine And.intro (by with_reducible rfl) ?_
              conv => whnf
              refine And.intro (by with_reducible rfl) ?_
              conv => whnf
              refine And.intro (by with_reducible rfl) ?_
              conv => whnf
              refine And.intro (by with_reducible rfl) ?_
              conv => whnf
              refine And.intro (by with_reducible rfl) ?_
              conv => whnf
              refine And.intro (by with_reducible rfl) ?_
              conv => whnf
              refine And.intro (by (simp only [wrap_i64]; omega)) ?_
              exact True.intro
        · replace hc2 := of_decide_eq_false hc2
          conv => whnf
          refine And.intro (by exact rfl) ?_
          conv => whnf
          refine And.intro (by omega) ?_
          refine And.intro (by omega) ?_
          refine And.intro (by omega) ?_
          conv => whnf
          refine AV.of_eqv ?_
          conv => whnf
          refine And.intro (by (rw [show i = c by omega])) ?_
          conv => whnf
          refine And.intro (by (simp; done)) ?_
          conv => whnf
          refine And.intro (by with_reducible rfl) ?_
          exact True.intro
theorem rtake_short (l : By) (k : Int) (c : Nat) (hk : k = c) (hc : c ≤ 8) (hl : l.length < c) : Good Try.prog 85 [.str l, .int .i64 k] (.tuple [.int .u64 0, .str [], .int .i64 2]) := by
  subst hk
  apply good_at ak85 rfl rfl rfl
  conv => whnf
  refine br_l rfl rfl ?_
  conv => whnf
  refine br_l rfl rfl ?_
  conv => whnf
  refine br_r rfl rfl ?_
  conv => whnf
  refine And.intro (fun hc0 => ?_) (fun hc0 => ?_)
  · replace hc0 := of_decide_eq_true hc0
    (exfalso; omega)
  · replace hc0 := of_decide_eq_false hc0
    conv => whnf
    refine And.intro (fun hc1 => ?_) (fun hc1 => ?_)
    · replace hc1 := of_decide_eq_true hc1
      conv => whnf
      refine AV.of_eqv ?_
      conv => whnf
      refine And.intro (by with_reducible rfl) ?_
      conv => whnf
      refine And.intro (by with_reducible rfl) ?_
      conv => whnf
      refine And.intro (by with_reducible rfl) ?_
      exact True.intro
    · replace hc1 := of_decide_eq_false hc1
      (exfalso; omega)
theorem rrest_good (l : By) : Good Try.prog 87 [.str l] (.int .i64 (if l = [] then 0 else 3)) := by
  apply good_at ak87 rfl rfl rfl
  conv => whnf
  refine And.intro (fun hc0 => ?_) (fun hc0 => ?_)
  · replace hc0 := of_decide_eq_false (Bool.not_eq_true' _ |>.mp hc0)
    conv => whnf
    refine AV.of_eqv ?_
    conv => whnf
    refine And.intro (by (rw [if_neg (by assumption)])) ?_
    exact True.intro
  · replace hc0 := of_decide_eq_true (Bool.not_eq_false' _ |>.mp hc0)
    conv => whnf
    refine AV.of_eqv ?_
    conv => whnf
    refine And.intro (by (rw [if_pos (by assumption)])) ?_
    exact True.intro
theorem rebytes_good (a b c d : Int) (ha : u32b a) (hb : u32b b) (hc : u32b c) (hd : u32b d) : Good Try.prog 81 [eP a b c d] (.str (pb a b c d)) := by
  have e : ∀ {a : Int}, u32b a → IntKind.u64.wrap a = a := fun h => by unfold u32b at h; rw [wrap_u64]; omega
  have ea := e ha
  have eb := e hb
  have ec := e hc
  have ed := e hd
  unfold u32b at ha hb hc hd
  apply good_at ak81 rfl rfl rfl
  conv => whnf
  refine And.intro (by exact rfl) ?_
  conv => whnf
  refine ⟨_, (rnum_good _ _ 4) ?_ ?_ ?_ ?_, ?_⟩
  · omega
  · omega
  · decide
  · decide
  · conv => whnf
    refine ⟨_, (rnum_good _ _ 4) ?_ ?_ ?_ ?_, ?_⟩
    · omega
    · omega
    · decide
    · decide
    · conv => whnf
      refine And.intro (by (simp only [nb_len, maxLen_eq, List.length_append]; omega)) ?_
      conv => whnf
      refine ⟨_, (rnum_good _ _ 4) ?_ ?_ ?_ ?_, ?_⟩
      · omega
      · omega
      · decide
      · decide
      · conv => whnf
        refine And.intro (by (simp only [nb_len, maxLen_eq, List.length_append]; omega)) ?_
        conv => whnf
        refine ⟨_, (rnum_good _ _ 4) ?_ ?_ ?_ ?_, ?_⟩
        · omega
        · omega
        · decide
        · decide
        · conv => whnf
          refine And.intro (by (simp only [nb_len, maxLen_eq, List.length_append]; omega)) ?_
          conv => whnf
          refine AV.of_eqv ?_
          conv => whnf
          refine And.intro (by (simp only [ea, eb, ec, ed, nb, pb, pairB, List.append_assoc])) ?_
          exact True.intro
theorem reread_short (l : By) (hl : l.length < 16) : Good Try.prog 86 [.str l] (.tuple [eP 0 0 0 0, .str [], .int .i64 2]) := by
  apply good_at ak86 rfl rfl rfl
  conv => whnf
  refine And.intro (fun hc0 => ?_) (fun hc0 => ?_)
  · replace hc0 := of_decide_eq_true hc0
    conv => whnf
    refine AV.of_eqv ?_
    conv => whnf
    refine And.intro (by with_reducible rfl) ?_
    conv => whnf
    refine And.intro (by with_reducible rfl) ?_
    conv => whnf
    refine And.intro (by with_reducible rfl) ?_
    conv => whnf
    refine And.intro (by with_reducible rfl) ?_
    conv => whnf
    refine And.intro (by with_reducible rfl) ?_
    conv => whnf
    refine And.intro (by with_reducible rfl) ?_
    exact True.intro
  · replace hc0 := of_decide_eq_false hc0
    (exfalso; omega)
theorem q4_w (l : By) (k j : Nat) (hj : j = 4 * k) : IntKind.u32.wrap ((valB 0 ((l.drop j).take 4) : Nat) : Int) = q4 l k := by
  subst hj
  have := q4_b l k
  unfold u32b q4 quad at *
  rw [wrap_u32]
  omega
theorem reread_ok (l : By) (hl : 16 ≤ l.length) : Good Try.prog 86 [.str l] (.tuple [eP (q4 l 0) (q4 l 1) (q4 l 2) (q4 l 3), .str (l.drop 16), .int .i64 0]) := by
  apply good_at ak86 rfl rfl rfl
  conv => whnf
  refine And.intro (fun hc0 => ?_) (fun hc0 => ?_)
  · replace hc0 := of_decide_eq_true hc0
    (exfalso; omega)
  · replace hc0 := of_decide_eq_false hc0
    conv => whnf
    refine loop_run 300 ?_
    conv => whnf
    refine ⟨[], ?_⟩
    refine And.intro (by exact rfl) ?_
    conv => whnf
    refine br_l rfl rfl ?_
    conv => whnf
    refine ⟨_, (rtake_ok _ _ 4) ?_ ?_ ?_, ?_⟩
    · decide
    · decide
    · omega
    · conv => whnf
      refine And.intro (by decide) ?_
      refine And.intro (by decide) ?_
      conv => whnf
      refine ⟨[], ?_⟩
      refine And.intro (by exact rfl) ?_
      conv => whnf
      refine br_l rfl rfl ?_
      conv => whnf
      refine ⟨_, (rtake_ok _ _ 4) ?_ ?_ ?_, ?_⟩
      · decide
      · decide
      · (simp only [List.length_drop]; omega)
      · conv => whnf
        refine And.intro (by decide) ?_
        refine And.intro (by decide) ?_
        conv => whnf
        refine ⟨[], ?_⟩
        refine And.intro (by exact rfl) ?_
        conv => whnf
        refine br_l rfl rfl ?_
        conv => whnf
        refine ⟨_, (rtake_ok _ _ 4) ?_ ?_ ?_, ?_⟩
        · decide
        · decide
        · (simp only [List.length_drop]; omega)
        · conv => whnf
          refine And.intro (by decide) ?_
          refine And.intro (by decide) ?_
          conv => whnf
          refine ⟨[], ?_⟩
          refine And.intro (by exact rfl) ?_
          conv => whnf
          refine br_l rfl rfl ?_
          conv => whnf
          refine ⟨_, (rtake_ok _ _ 4) ?_ ?_ ?_, ?_⟩
          · decide
          · decide
          · (simp only [List.length_drop]; omega)
          · conv => whnf
            refine And.intro (by decide) ?_
            refine And.intro (by decide) ?_
            conv => whnf
            refine ⟨[], ?_⟩
            refine And.intro (by exact rfl) ?_
            conv => whnf
            refine br_r rfl rfl ?_
            conv => whnf
            refine And.intro (by decide) ?_
            refine And.intro (by decide) ?_
            conv => whnf
            refine And.intro (by decide) ?_
            refine And.intro (by decide) ?_
            conv => whnf
            refine And.intro (by decide) ?_
            refine And.intro (by decide) ?_
            conv => whnf
            refine And.intro (by decide) ?_
            refine And.intro (by decide) ?_
            conv => whnf
            refine AV.of_eqv ?_
            conv => whnf
            refine And.intro (by (exact q4_w l 0 0 rfl)) ?_
            conv => whnf
            refine And.intro (by (exact q4_w l 1 4 rfl)) ?_
            conv => whnf
            refine And.intro (by (simp only [List.drop_drop]; exact q4_w l _ _ rfl)) ?_
            conv => whnf
            refine And.intro (by (simp only [List.drop_drop]; exact q4_w l _ _ rfl)) ?_
            conv => whnf
            refine And.intro (by (simp only [List.drop_drop])) ?_
            conv => whnf
            refine And.intro (by with_reducible rfl) ?_
            exact True.intro
theorem rright3_good (x : Int) : Good Try.prog 90 [.int .i64 x] (.bool (decide (0 ≤ x ∧ x < 16))) := by
  apply good_at ak90 rfl rfl rfl
  conv => whnf
  refine And.intro (fun hc0 => ?_) (fun hc0 => ?_)
  · replace hc0 := of_decide_eq_true hc0
    conv => whnf
    refine br_l rfl rfl ?_
    conv => whnf
    refine br_l rfl rfl ?_
    conv => whnf
    refine AV.of_eqv ?_
    conv => whnf
    refine And.intro (by exact decide_eq_decide.2 (by omega)) ?_
    exact True.intro
  · replace hc0 := of_decide_eq_false hc0
    conv => whnf
    refine br_r rfl rfl ?_
    conv => whnf
    refine br_r rfl rfl ?_
    conv => whnf
    refine AV.of_eqv ?_
    conv => whnf
    refine And.intro (by exact (decide_eq_false (by omega)).symm) ?_
    exact True.intro
theorem right3_good (x : Int) : Good Try.prog 88 [.int .i64 x] (.bool (decide (0 ≤ x ∧ x < 16))) := by
  apply good_at ak88 rfl rfl rfl
  conv => whnf
  refine And.intro (fun hc0 => ?_) (fun hc0 => ?_)
  · replace hc0 := of_decide_eq_true hc0
    conv => whnf
    refine br_l rfl rfl ?_
    conv => whnf
    refine br_l rfl rfl ?_
    conv => whnf
    refine AV.of_eqv ?_
    conv => whnf
    refine And.intro (by exact decide_eq_decide.2 (by omega)) ?_
    exact True.intro
  · replace hc0 := of_decide_eq_false hc0
    conv => whnf
    refine br_r rfl rfl ?_
    conv => whnf
    refine br_r rfl rfl ?_
    conv => whnf
    refine AV.of_eqv ?_
    conv => whnf
    refine And.intro (by exact (decide_eq_false (by omega)).symm) ?_
    exact True.intro
end Go.Proofs.Ytkcdeefnkbbacaa

/- Acks: the contracts of the program's and of the document's functions. -/
import Derived.Test.YtkcdeefnkbbacaaW05
import Derived.Test.YtkcdeefnkbbacaaW09c
import Derived.Test.YtkcdeefnkbbacaaNumV
set_option maxRecDepth 100000
set_option linter.unusedSimpArgs false
set_option linter.unusedVariables false
namespace Go.Proofs.Ytkcdeefnkbbacaa
open Go.RowKit
set_option maxHeartbeats 4000000
/-- bit j of a number of 64 bits -/
def bitB (k : Int) (j : Nat) : Bool := decide (k / ((2 ^ j : Nat) : Int) % 2 = 1)
theorem lt8 {j : Nat} (h : j < 8) : j = 0 ∨ j = 1 ∨ j = 2 ∨ j = 3 ∨ j = 4 ∨ j = 5 ∨ j = 6 ∨ j = 7 := by omega
theorem tb64 (k : Int) {j : Nat} (hj : j < 8) : (BitVec.ofInt IntKind.i64.bits k).toNat.testBit j = bitB k j := by
  show (BitVec.ofInt 64 k).toNat.testBit j = _
  rw [BitVec.toNat_ofInt, Nat.testBit_eq_decide_div_mod_eq]
  unfold bitB
  refine decide_eq_decide.2 ?_
  rcases lt8 hj with rfl | rfl | rfl | rfl | rfl | rfl | rfl | rfl <;> simp <;> omega
theorem pow64 {j : Nat} (hj : j < 8) : (BitVec.ofInt IntKind.i64.bits ((2 ^ j : Nat) : Int)).toNat = 2 ^ j := by
  show (BitVec.ofInt 64 _).toNat = _
  rw [BitVec.toNat_ofInt]
  rcases lt8 hj with rfl | rfl | rfl | rfl | rfl | rfl | rfl | rfl <;> decide
theorem pow8 {j : Nat} (hj : j < 8) : 2 ^ j ≤ 128 ∧ 1 ≤ 2 ^ j := by rcases lt8 hj with rfl | rfl | rfl | rfl | rfl | rfl | rfl | rfl <;> decide
theorem and_bit (k : Int) {j : Nat} (hj : j < 8) : (!decide (IntKind.i64.wrap (((BitVec.ofInt IntKind.i64.bits k &&& BitVec.ofInt IntKind.i64.bits ((2 ^ j : Nat) : Int)).toNat : Nat) : Int) = 0)) = bitB k j := by
  rw [BitVec.toNat_and, pow64 hj, ← tb64 k hj]
  generalize (BitVec.ofInt IntKind.i64.bits k).toNat = n
  have hle : n &&& 2 ^ j ≤ 2 ^ j := Nat.and_le_right
  have h8 := pow8 hj
  have e : IntKind.i64.wrap ((n &&& 2 ^ j : Nat) : Int) = ((n &&& 2 ^ j : Nat) : Int) := by rw [wrap_i64]; omega
  rw [e]
  have hb : (n &&& 2 ^ j).testBit j = n.testBit j := by rw [Nat.testBit_and, Nat.testBit_two_pow]; simp
  cases ht : n.testBit j with
  | true =>
    rw [ht] at hb
    have : n &&& 2 ^ j ≠ 0 := by intro h0; rw [h0] at hb; simp at hb
    simp; omega
  | false =>
    have : n &&& 2 ^ j = 0 := by
      apply Nat.eq_of_testBit_eq
      intro i
      rw [Nat.testBit_and, Nat.testBit_two_pow]
      by_cases hi : j = i
      · subst hi; simp [ht]
      · simp [hi]
    simp; omega
theorem and_one (v : Int) : decide (IntKind.i64.wrap (((BitVec.ofInt IntKind.i64.bits v &&& BitVec.ofInt IntKind.i64.bits 1).toNat : Nat) : Int) = 1) = decide (v % 2 = 1) := by
  have e1 : (BitVec.ofInt IntKind.i64.bits 1).toNat = 1 := by decide
  rw [BitVec.toNat_and, e1, Nat.and_one_is_mod]
  have e2 : (BitVec.ofInt IntKind.i64.bits v).toNat = (v % 18446744073709551616).toNat := by
    show (BitVec.ofInt 64 v).toNat = _
    rw [BitVec.toNat_ofInt]; rfl
  rw [e2, wrap_i64]
  refine decide_eq_decide.2 ?_
  omega
theorem or_bit {b j : Nat} (hb : b < 256) (hj : j < 8) : IntKind.i64.wrap (((BitVec.ofInt IntKind.i64.bits (b : Int) ||| BitVec.ofInt IntKind.i64.bits ((2 ^ j : Nat) : Int)).toNat : Nat) : Int) = ((b ||| 2 ^ j : Nat) : Int) := by
  rw [BitVec.toNat_or, pow64 hj]
  have e1 : (BitVec.ofInt IntKind.i64.bits (b : Int)).toNat = b := by
    show (BitVec.ofInt 64 (b : Int)).toNat = _
    rw [BitVec.toNat_ofInt]
    show ((b : Int) % 18446744073709551616).toNat = b
    omega
  have h8 := pow8 hj
  have hlt : b ||| 2 ^ j < 2 ^ 8 := Nat.or_lt_two_pow (by omega) (by omega)
  rw [e1, wrap_i64]
  omega
abbrev bits8 : List AV := [.int .i64 1, .int .i64 2, .int .i64 4, .int .i64 8, .int .i64 16, .int .i64 32, .int .i64 64, .int .i64 128]
theorem ex_bit {j : Nat} {K : AV → Prop} (hj : j < 8) (h : K (.int .i64 ((2 ^ j : Nat) : Int))) : ∃ c, bits8[j]? = some c ∧ K c := by
  rcases lt8 hj with rfl | rfl | rfl | rfl | rfl | rfl | rfl | rfl <;> exact ⟨_, rfl, h⟩
theorem ex_bitO {j : Nat} {K : AV → Prop} (hj : j < 8) (h : K (.int .i64 ((2 ^ j : Nat) : Int))) : ∃ c, bits8[0 + j * 1]? = some c ∧ K c := by
  rw [Nat.mul_one, Nat.zero_add]
  exact ex_bit hj h
theorem bit_good : Good Try.prog 104 [] (.agg bits8) := by
  apply good_at ak104 rfl rfl rfl
  conv => whnf
  refine AV.of_eqv ?_
  conv => whnf
  refine And.intro (by with_reducible rfl) ?_
  conv => whnf
  refine And.intro (by with_reducible rfl) ?_
  conv => whnf
  refine And.intro (by with_reducible rfl) ?_
  conv => whnf
  refine And.intro (by with_reducible rfl) ?_
  conv => whnf
  refine And.intro (by with_reducible rfl) ?_
  conv => whnf
  refine And.intro (by with_reducible rfl) ?_
  conv => whnf
  refine And.intro (by with_reducible rfl) ?_
  conv => whnf
  refine And.intro (by with_reducible rfl) ?_
  exact True.intro
theorem near_good (n : Int) : Good Try.prog 108 [.int .i64 n] (.bool (decide (0 ≤ n ∧ n ≤ 65535))) := by
  apply good_at ak108 rfl rfl rfl
  conv => whnf
  refine And.intro (fun hc0 => ?_) (fun hc0 => ?_)
  · replace hc0 := of_decide_eq_true hc0
    conv => whnf
    refine br_l rfl rfl ?_
    conv => whnf
    refine br_l rfl rfl ?_
    conv => whnf
    refine AV.of_eqv ?_
    conv => whnf
    refine And.intro (by exact decide_eq_decide.2 (by omega)) ?_
    exact True.intro
  · replace hc0 := of_decide_eq_false hc0
    conv => whnf
    refine br_r rfl rfl ?_
    conv => whnf
    refine br_r rfl rfl ?_
    conv => whnf
    refine AV.of_eqv ?_
    conv => whnf
    refine And.intro (by exact (decide_eq_false (by omega)).symm) ?_
    exact True.intro
abbrev Ak := Int × Int × Int × Int × Int × Int × Int
def ak (x : Ak) : List AV := [.int .i64 x.1, .int .u32 x.2.1, .int .u32 x.2.2.1, .int .u32 x.2.2.2.1, .int .u32 x.2.2.2.2.1, .int .i64 x.2.2.2.2.2.1, .int .i64 x.2.2.2.2.2.2]
abbrev eA (f a b c d n k : Int) : AV := .agg [.int .i64 f, .int .u32 a, .int .u32 b, .int .u32 c, .int .u32 d, .int .i64 n, .int .i64 k]
abbrev okA (f n k : Int) : Prop := 0 ≤ f ∧ f < 16 ∧ 0 ≤ n ∧ n ≤ 65535 ∧ 0 ≤ k ∧ k ≤ 255
theorem aright_good (f a b c d n k : Int) : Good Try.prog 45 [eA f a b c d n k] (.bool (decide (okA f n k))) := by
  apply good_at ak45 rfl rfl rfl
  conv => whnf
  refine ⟨_, right3_good _, ?_⟩
  conv => whnf
  refine And.intro (fun hc0 => ?_) (fun hc0 => ?_)
  · replace hc0 := of_decide_eq_true hc0
    conv => whnf
    refine br_l rfl rfl ?_
    conv => whnf
    refine br_l rfl rfl ?_
    conv => whnf
    refine ⟨_, near_good _, ?_⟩
    conv => whnf
    refine br_l rfl rfl ?_
    conv => whnf
    refine And.intro (fun hc1 => ?_) (fun hc1 => ?_)
    · replace hc1 := of_decide_eq_true hc1
      conv => whnf
      refine br_l rfl rfl ?_
      conv => whnf
      refine br_l rfl rfl ?_
      conv => whnf
      refine br_l rfl rfl ?_
      conv => whnf
      refine And.intro (fun hc2 => ?_) (fun hc2 => ?_)
      · replace hc2 := of_decide_eq_true hc2
        conv => whnf
        refine br_l rfl rfl ?_
        conv => whnf
        refine br_l rfl rfl ?_
        conv => whnf
        refine br_l rfl rfl ?_
        conv => whnf
        refine AV.of_eqv ?_
        conv => whnf
        refine And.intro (by exact decide_eq_decide.2 (by omega)) ?_
        exact True.intro
      · replace hc2 := of_decide_eq_false hc2
        conv => whnf
        refine br_r rfl rfl ?_
        conv => whnf
        refine br_r rfl rfl ?_
        conv => whnf
        refine br_r rfl rfl ?_
        conv => whnf
        refine AV.of_eqv ?_
        conv => whnf
        refine And.intro (by exact (decide_eq_false (by omega)).symm) ?_
        exact True.intro
    · replace hc1 := of_decide_eq_false hc1
      conv => whnf
      refine br_r rfl rfl ?_
      conv => whnf
      refine br_r rfl rfl ?_
      conv => whnf
      refine br_r rfl rfl ?_
      conv => whnf
      refine br_r rfl rfl ?_
      conv => whnf
      refine br_r rfl rfl ?_
      conv => whnf
      refine br_r rfl rfl ?_
      conv => whnf
      refine br_r rfl rfl ?_
      conv => whnf
      refine AV.of_eqv ?_
      conv => whnf
      refine And.intro (by exact (decide_eq_false (by omega)).symm) ?_
      exact True.intro
  · replace hc0 := of_decide_eq_false hc0
    conv => whnf
    refine br_r rfl rfl ?_
    conv => whnf
    refine br_r rfl rfl ?_
    conv => whnf
    refine br_r rfl rfl ?_
    conv => whnf
    refine br_r rfl rfl ?_
    conv => whnf
    refine br_r rfl rfl ?_
    conv => whnf
    refine br_r rfl rfl ?_
    conv => whnf
    refine br_r rfl rfl ?_
    conv => whnf
    refine br_r rfl rfl ?_
    conv => whnf
    refine br_r rfl rfl ?_
    conv => whnf
    refine br_r rfl rfl ?_
    conv => whnf
    refine br_r rfl rfl ?_
    conv => whnf
    refine AV.of_eqv ?_
    conv => whnf
    refine And.intro (by exact (decide_eq_false (by omega)).symm) ?_
    exact True.intro
def hasB (n k s : Int) : Bool := decide (s < n) || (decide (0 ≤ n ∧ s ≤ 65535 ∧ s - n ≤ 7) && bitB k (s - n).toNat)
theorem has_lt {n k s : Int} (h : s < n) : hasB n k s = true := by simp [hasB, h]
theorem has_no {n k s : Int} (h : ¬ s < n) (h2 : ¬ (0 ≤ n ∧ s ≤ 65535 ∧ s - n ≤ 7)) : hasB n k s = false := by unfold hasB; rw [decide_eq_false h, decide_eq_false h2]; rfl
theorem has_bit {n k s : Int} (h : ¬ s < n) (h2 : 0 ≤ n ∧ s ≤ 65535 ∧ s - n ≤ 7) : hasB n k s = bitB k (s - n).toNat := by unfold hasB; rw [decide_eq_false h, decide_eq_true h2]; simp
theorem sub_w {n s : Int} (h : ¬ s < n) (h2 : 0 ≤ n) (h3 : s ≤ 65535) : IntKind.i64.wrap (s - n) = s - n := by rw [wrap_i64]; omega
theorem has_good (f a b c d n k s : Int) : Good Try.prog 40 [eA f a b c d n k, .int .i64 s] (.bool (hasB n k s)) := by
  apply good_at ak40 rfl rfl rfl
  conv => whnf
  refine And.intro (fun hc0 => ?_) (fun hc0 => ?_)
  · replace hc0 := of_decide_eq_true hc0
    conv => whnf
    refine AV.of_eqv ?_
    conv => whnf
    refine And.intro (by (rw [has_lt (by assumption)])) ?_
    exact True.intro
  · replace hc0 := of_decide_eq_false hc0
    conv => whnf
    refine And.intro (fun hc1 => ?_) (fun hc1 => ?_)
    · replace hc1 := of_decide_eq_true hc1
      conv => whnf
      refine br_l rfl rfl ?_
      conv => whnf
      refine AV.of_eqv ?_
      conv => whnf
      refine And.intro (by (rw [has_no (by assumption) (by omega)])) ?_
      exact True.intro
    · replace hc1 := of_decide_eq_false hc1
      conv => whnf
      refine And.intro (fun hc2 => ?_) (fun hc2 => ?_)
      · replace hc2 := of_decide_eq_true hc2
        conv => whnf
        refine br_l rfl rfl ?_
        conv => whnf
        refine AV.of_eqv ?_
        conv => whnf
        refine And.intro (by (rw [has_no (by assumption) (by omega)])) ?_
        exact True.intro
      · replace hc2 := of_decide_eq_false hc2
        conv => whnf
        refine And.intro (by exact rfl) ?_
        conv => whnf
        refine ⟨_, bit_good, ?_⟩
        conv => whnf
        refine And.intro (fun hc3 => ?_) (fun hc3 => ?_)
        · replace hc3 := of_decide_eq_true hc3
          conv => whnf
          refine AV.of_eqv ?_
          conv => whnf
          refine And.intro (by (rw [has_no (by assumption) (by simp only [wrap_i64] at *; omega)])) ?_
          exact True.intro
        · replace hc3 := of_decide_eq_false hc3
          conv => whnf
          refine And.intro (by exact rfl) ?_
          conv => whnf
          refine ⟨_, bit_good, ?_⟩
          conv => whnf
          refine And.intro (by (simp only [wrap_i64] at *; omega)) ?_
          refine ex_bit ?_ ?_
          · omega
          · conv => whnf
            refine AV.of_eqv ?_
            conv => whnf
            refine And.intro (by (rw [and_bit _ (by simp only [wrap_i64] at *; omega), has_bit (by assumption) (by simp only [wrap_i64] at *; omega), sub_w (by assumption) (by omega) (by omega)])) ?_
            exact True.intro
theorem shr_bit {n k s : Int} (h : ¬ s < n) (h2 : 0 ≤ n ∧ s ≤ 65535 ∧ s - n ≤ 7) : decide (k.fdiv (2 ^ (min (IntKind.u64.wrap (IntKind.i64.wrap (s - n))).toNat IntKind.i64.bits)) % 2 = 1) = bitB k (s - n).toNat := by
  have e1 : (IntKind.u64.wrap (IntKind.i64.wrap (s - n))).toNat = (s - n).toNat := by rw [wrap_i64, wrap_u64]; omega
  have e2 : min (s - n).toNat IntKind.i64.bits = (s - n).toNat := Nat.min_eq_left (by show _ ≤ 64; omega)
  rw [e1, e2]
  unfold bitB
  rw [Int.fdiv_eq_ediv_of_nonneg _ (by exact Int.pow_nonneg (by omega))]
  norm_cast
theorem rhas_good (f a b c d n k s : Int) : Good Try.prog 106 [eA f a b c d n k, .int .i64 s] (.bool (hasB n k s)) := by
  apply good_at ak106 rfl rfl rfl
  conv => whnf
  refine And.intro (fun hc0 => ?_) (fun hc0 => ?_)
  · replace hc0 := of_decide_eq_true hc0
    conv => whnf
    refine AV.of_eqv ?_
    conv => whnf
    refine And.intro (by (rw [has_lt (by assumption)])) ?_
    exact True.intro
  · replace hc0 := of_decide_eq_false hc0
    conv => whnf
    refine And.intro (fun hc1 => ?_) (fun hc1 => ?_)
    · replace hc1 := of_decide_eq_false hc1
      conv => whnf
      refine br_l rfl rfl ?_
      conv => whnf
      refine br_r rfl rfl ?_
      conv => whnf
      refine And.intro (fun hc2 => ?_) (fun hc2 => ?_)
      · replace hc2 := of_decide_eq_false hc2
        conv => whnf
        refine br_l rfl rfl ?_
        conv => whnf
        refine br_l rfl rfl ?_
        conv => whnf
        refine br_l rfl rfl ?_
        conv => whnf
        refine br_l rfl rfl ?_
        conv => whnf
        refine br_r rfl rfl ?_
        conv => whnf
        refine And.intro (fun hc3 => ?_) (fun hc3 => ?_)
        · replace hc3 := of_decide_eq_true hc3
          conv => whnf
          refine AV.of_eqv ?_
          conv => whnf
          refine And.intro (by (rw [has_no (by assumption) (by simp only [wrap_i64] at *; omega)])) ?_
          exact True.intro
        · replace hc3 := of_decide_eq_false hc3
          conv => whnf
          refine And.intro (by (simp only [wrap_i64, wrap_u64] at *; omega)) ?_
          conv => whnf
          refine AV.of_eqv ?_
          conv => whnf
          refine And.intro (by (rw [and_one, shr_bit (by assumption) (by simp only [wrap_i64] at *; omega), has_bit (by assumption) (by simp only [wrap_i64] at *; omega)])) ?_
          exact True.intro
      · replace hc2 := of_decide_eq_true hc2
        conv => whnf
        refine br_r rfl rfl ?_
        conv => whnf
        refine br_r rfl rfl ?_
        conv => whnf
        refine br_r rfl rfl ?_
        conv => whnf
        refine br_r rfl rfl ?_
        conv => whnf
        refine br_l rfl rfl ?_
        conv => whnf
        refine br_l rfl rfl ?_
        conv => whnf
        refine AV.of_eqv ?_
        conv => whnf
        refine And.intro (by (rw [has_no (by assumption) (by omega)])) ?_
        exact True.intro
    · replace hc1 := of_decide_eq_true hc1
      conv => whnf
      refine br_r rfl rfl ?_
      conv => whnf
      refine br_l rfl rfl ?_
      conv => whnf
      refine br_r rfl rfl ?_
      conv => whnf
      refine br_r rfl rfl ?_
      conv => whnf
      refine br_r rfl rfl ?_
      conv => whnf
      refine br_r rfl rfl ?_
      conv => whnf
      refine br_r rfl rfl ?_
      conv => whnf
      refine br_l rfl rfl ?_
      conv => whnf
      refine br_l rfl rfl ?_
      conv => whnf
      refine AV.of_eqv ?_
      conv => whnf
      refine And.intro (by (rw [has_no (by assumption) (by omega)])) ?_
      exact True.intro
def ofS (n : Int) (b : Nat) (s : Int) : Nat := if n ≤ s ∧ s - n ≤ 7 then b ||| 2 ^ (s - n).toNat else b
def ofN (n : Int) (l : List Int) : Nat := l.foldl (ofS n) 0
theorem ofS_lt {n s : Int} {b : Nat} (h : b < 256) : ofS n b s < 256 := by
  unfold ofS
  split
  · have h8 := pow8 (j := (s - n).toNat) (by omega)
    exact Nat.or_lt_two_pow (n := 8) (by omega) (by omega)
  · exact h
theorem ofN_lt (n : Int) (l : List Int) : ofN n l < 256 := by
  unfold ofN
  have key : ∀ (l : List Int) (b : Nat), b < 256 → l.foldl (ofS n) b < 256 := by
    intro l
    induction l with
    | nil => intro b h; exact h
    | cons x l ih => intro b h; exact ih _ (ofS_lt h)
  exact key l 0 (by omega)
theorem ofN_at {n : Int} {l : List Int} {i : Nat} {s : Int} (h : l[i]? = some s) : ofN n (l.take (i + 1)) = ofS n (ofN n (l.take i)) s := by
  unfold ofN
  rw [take_at h, List.foldl_append]; rfl
theorem ofN_bit (n : Int) (l : List Int) {j : Nat} (hj : j < 8) : (ofN n l).testBit j = l.any fun s => decide (s = n + j) := by
  unfold ofN
  have key : ∀ (l : List Int) (b : Nat), (l.foldl (ofS n) b).testBit j = (b.testBit j || l.any fun s => decide (s = n + j)) := by
    intro l
    induction l with
    | nil => intro b; simp
    | cons x l ih =>
      intro b
      rw [List.foldl_cons, ih, List.any_cons]
      have : (ofS n b x).testBit j = (b.testBit j || decide (x = n + j)) := by
        unfold ofS
        split
        · rw [Nat.testBit_or, Nat.testBit_two_pow]
          congr 1
          exact decide_eq_decide.2 (by omega)
        · rw [decide_eq_false (by omega), Bool.or_false]
      rw [this, Bool.or_assoc]
  rw [key l 0]; simp
def ofB (n : Int) (l : List Int) : Int := if n < 0 then 0 else ((ofN n l : Nat) : Int)
def i1 (x : Int) : List AV := [.int .i64 x]
theorem ofB_neg {n : Int} (h : n < 0) (l : List Int) : ofB n l = 0 := by unfold ofB; rw [if_pos h]
theorem ofB_pos {n : Int} (h : ¬ n < 0) (l : List Int) : ofB n l = ((ofN n l : Nat) : Int) := by unfold ofB; rw [if_neg h]
theorem of_step {n s : Int} {l : List Int} {i : Nat} (hx : l[i]? = some s) (hn : 0 ≤ n) (h1 : n ≤ s) (h2 : IntKind.i64.wrap (s - n) < 8 ∨ IntKind.i64.wrap (s - n) ≤ 7) (hb : s ≤ 9223372036854775807) :
    IntKind.i64.wrap (((BitVec.ofInt IntKind.i64.bits ((ofN n (l.take i) : Nat) : Int) ||| BitVec.ofInt IntKind.i64.bits ((2 ^ (IntKind.i64.wrap (s - n)).toNat : Nat) : Int)).toNat : Nat) : Int) = ((ofN n (l.take (i + 1)) : Nat) : Int) := by
  have e : IntKind.i64.wrap (s - n) = s - n := by rw [wrap_i64]; omega
  rw [e] at h2 ⊢
  rw [or_bit (ofN_lt _ _) (by omega), ofN_at hx]
  unfold ofS
  rw [if_pos (by omega)]
theorem of_skip {n s : Int} {l : List Int} {i : Nat} (hx : l[i]? = some s) (h : ¬ (n ≤ s ∧ s - n ≤ 7)) : ((ofN n (l.take i) : Nat) : Int) = ((ofN n (l.take (i + 1)) : Nat) : Int) := by
  rw [ofN_at hx]
  unfold ofS
  rw [if_neg h]
theorem of_good (n : Int) (l : List Int) (hl : l.length ≤ 1000000) (hb : ∀ s ∈ l, s ≤ 9223372036854775807) : Good Try.prog 39 [.int .i64 n, .sl .sh 1 (l.map i1)] (.tuple [.int .i64 n, .int .i64 (ofB n l)]) := by
  apply good_at ak39 rfl rfl rfl
  conv => whnf
  refine And.intro (fun hc0 => ?_) (fun hc0 => ?_)
  · replace hc0 := of_decide_eq_true hc0
    conv => whnf
    refine AV.of_eqv ?_
    conv => whnf
    refine And.intro (by with_reducible rfl) ?_
    conv => whnf
    refine And.intro (by (rw [ofB_neg (by assumption)])) ?_
    exact True.intro
  · replace hc0 := of_decide_eq_false hc0
    conv => whnf
    refine ⟨_, bit_good, ?_⟩
    conv => whnf
    refine loop_at (α := Nat) [] (fun i => [(16, .int .i64 (i : Int)), (6, .int .i64 ((ofN n (l.take i) : Nat) : Int))]) (fun i => []) (fun i => i ≤ l.length) (fun i => l.length - i) (0) (st_of ?_) ?_ (by rintro i _; rfl) ?_
    · conv => whnf
      refine And.intro (by with_reducible rfl) ?_
      conv => whnf
      refine And.intro (by with_reducible rfl) ?_
      conv => whnf
      refine And.intro (by with_reducible rfl) ?_
      conv => whnf
      refine And.intro (by with_reducible rfl) ?_
      conv => whnf
      refine And.intro (by exact rfl) ?_
      conv => whnf
      refine And.intro (by with_reducible rfl) ?_
      refine And.intro (by with_reducible rfl) ?_
      conv => whnf
      refine And.intro (by with_reducible rfl) ?_
      conv => whnf
      refine And.intro (by with_reducible rfl) ?_
      conv => whnf
      refine And.intro (by with_reducible rfl) ?_
      conv => whnf
      refine And.intro (by with_reducible rfl) ?_
      conv => whnf
      refine And.intro (by with_reducible rfl) ?_
      conv => whnf
      refine And.intro (by with_reducible rfl) ?_
      conv => whnf
      refine And.intro (by with_reducible rfl) ?_
      conv => whnf
      refine And.intro (by with_reducible rfl) ?_
      conv => whnf
      refine And.intro (by with_reducible rfl) ?_
      conv => whnf
      refine And.intro (by with_reducible rfl) ?_
      conv => whnf
      refine And.intro (by with_reducible rfl) ?_
      conv => whnf
      refine And.intro (by with_reducible rfl) ?_
      conv => whnf
      refine And.intro (by decide) ?_
      conv => whnf
      refine And.intro (by with_reducible rfl) ?_
      conv => whnf
      refine And.intro (by with_reducible rfl) ?_
      conv => whnf
      refine And.intro (by with_reducible rfl) ?_
      conv => whnf
      refine And.intro (by with_reducible rfl) ?_
      conv => whnf
      refine And.intro (by with_reducible rfl) ?_
      conv => whnf
      refine And.intro (by with_reducible rfl) ?_
      conv => whnf
      refine And.intro (by with_reducible rfl) ?_
      conv => whnf
      refine And.intro (by with_reducible rfl) ?_
      exact True.intro
    · omega
    · rintro i nextl0 hIl0 ihl0
      try dsimp only at hIl0
      conv => whnf
      refine And.intro (fun hc1 => ?_) (fun hc1 => ?_)
      · replace hc1 := of_decide_eq_true hc1
        conv => whnf
        refine And.intro (by omega) ?_
        refine ex_row (l := l) ?_ fun s hx => ?_
        · (simp only [map_rows] at *; omega)
        · simp only [toNat_ofNat] at hx
          conv => whnf
          refine And.intro (fun hc3 => ?_) (fun hc3 => ?_)
          · replace hc3 := of_decide_eq_true hc3
            conv => whnf
            refine br_l rfl rfl ?_
            conv => whnf
            refine br_l rfl rfl ?_
            conv => whnf
            refine br_l rfl rfl ?_
            conv => whnf
            refine br_l rfl rfl ?_
            conv => whnf
            refine And.intro (fun hc4 => ?_) (fun hc4 => ?_)
            · replace hc4 := of_decide_eq_true hc4
              conv => whnf
              refine And.intro (by (have := hb s (List.mem_of_getElem? hx); simp only [wrap_i64] at *; omega)) ?_
              refine And.intro (by assumption) ?_
              conv => whnf
              refine ex_bitO ?_ ?_
              · omega
              · conv => whnf
                refine ihl0 (i + 1) _ ?_ ?_ (st_of ?_)
                · (simp only [map_rows] at *; omega)
                · (simp only [map_rows] at *; omega)
                · conv => whnf
                  refine And.intro (by with_reducible rfl) ?_
                  conv => whnf
                  refine And.intro (by with_reducible rfl) ?_
                  conv => whnf
                  refine And.intro (by with_reducible rfl) ?_
                  conv => whnf
                  refine And.intro (by with_reducible rfl) ?_
                  conv => whnf
                  refine And.intro (by (exact of_step hx (by omega) (by omega) (by omega) (hb s (List.mem_of_getElem? hx)))) ?_
                  conv => whnf
                  refine And.intro (by with_reducible rfl) ?_
                  refine And.intro (by with_reducible rfl) ?_
                  conv => whnf
                  refine And.intro (by with_reducible rfl) ?_
                  conv => whnf
                  refine And.intro (by with_reducible rfl) ?_
                  conv => whnf
                  refine And.intro (by with_reducible rfl) ?_
                  conv => whnf
                  refine And.intro (by with_reducible rfl) ?_
                  conv => whnf
                  refine And.intro (by with_reducible rfl) ?_
                  conv => whnf
                  refine And.intro (by with_reducible rfl) ?_
                  conv => whnf
                  refine And.intro (by with_reducible rfl) ?_
                  conv => whnf
                  refine And.intro (by with_reducible rfl) ?_
                  conv => whnf
                  refine And.intro (by with_reducible rfl) ?_
                  conv => whnf
                  refine And.intro (by with_reducible rfl) ?_
                  conv => whnf
                  refine And.intro (by with_reducible rfl) ?_
                  conv => whnf
                  refine And.intro (by with_reducible rfl) ?_
                  conv => whnf
                  refine And.intro (by (have := hb s (List.mem_of_getElem? hx); simp only [wrap_i64] at *; omega)) ?_
                  conv => whnf
                  refine And.intro (by with_reducible rfl) ?_
                  conv => whnf
                  refine And.intro (by with_reducible rfl) ?_
                  conv => whnf
                  refine And.intro (by with_reducible rfl) ?_
                  conv => whnf
                  refine And.intro (by with_reducible rfl) ?_
                  conv => whnf
                  refine And.intro (by with_reducible rfl) ?_
                  conv => whnf
                  refine And.intro (by with_reducible rfl) ?_
                  conv => whnf
                  refine And.intro (by with_reducible rfl) ?_
                  conv => whnf
                  refine And.intro (by with_reducible rfl) ?_
                  exact True.intro
            · replace hc4 := of_decide_eq_false hc4
              conv => whnf
              refine ihl0 (i + 1) _ ?_ ?_ (st_of ?_)
              · (simp only [map_rows] at *; omega)
              · (simp only [map_rows] at *; omega)
              · conv => whnf
                refine And.intro (by with_reducible rfl) ?_
                conv => whnf
                refine And.intro (by with_reducible rfl) ?_
                conv => whnf
                refine And.intro (by with_reducible rfl) ?_
                conv => whnf
                refine And.intro (by with_reducible rfl) ?_
                conv => whnf
                refine And.intro (by (exact of_skip hx (by have := hb s (List.mem_of_getElem? hx); simp only [wrap_i64] at *; omega))) ?_
                conv => whnf
                refine And.intro (by with_reducible rfl) ?_
                refine And.intro (by with_reducible rfl) ?_
                conv => whnf
                refine And.intro (by with_reducible rfl) ?_
                conv => whnf
                refine And.intro (by with_reducible rfl) ?_
                conv => whnf
                refine And.intro (by with_reducible rfl) ?_
                conv => whnf
                refine And.intro (by with_reducible rfl) ?_
                conv => whnf
                refine And.intro (by with_reducible rfl) ?_
                conv => whnf
                refine And.intro (by with_reducible rfl) ?_
                conv => whnf
                refine And.intro (by with_reducible rfl) ?_
                conv => whnf
                refine And.intro (by with_reducible rfl) ?_
                conv => whnf
                refine And.intro (by with_reducible rfl) ?_
                conv => whnf
                refine And.intro (by with_reducible rfl) ?_
                conv => whnf
                refine And.intro (by with_reducible rfl) ?_
                conv => whnf
                refine And.intro (by with_reducible rfl) ?_
                conv => whnf
                refine And.intro (by (have := hb s (List.mem_of_getElem? hx); simp only [wrap_i64] at *; omega)) ?_
                conv => whnf
                refine And.intro (by with_reducible rfl) ?_
                conv => whnf
                refine And.intro (by with_reducible rfl) ?_
                conv => whnf
                refine And.intro (by with_reducible rfl) ?_
                conv => whnf
                refine And.intro (by with_reducible rfl) ?_
                conv => whnf
                refine And.intro (by with_reducible rfl) ?_
                conv => whnf
                refine And.intro (by with_reducible rfl) ?_
                conv => whnf
                refine And.intro (by with_reducible rfl) ?_
                conv => whnf
                refine And.intro (by with_reducible rfl) ?_
                exact True.intro
          · replace hc3 := of_decide_eq_false hc3
            conv => whnf
            refine br_r rfl rfl ?_
            conv => whnf
            refine br_r rfl rfl ?_
            conv => whnf
            refine br_r rfl rfl ?_
            conv => whnf
            refine br_r rfl rfl ?_
            conv => whnf
            refine br_r rfl rfl ?_
            conv => whnf
            refine ihl0 (i + 1) _ ?_ ?_ (st_of ?_)
            · (simp only [map_rows] at *; omega)
            · (simp only [map_rows] at *; omega)
            · conv => whnf
              refine And.intro (by with_reducible rfl) ?_
              conv => whnf
              refine And.intro (by with_reducible rfl) ?_
              conv => whnf
              refine And.intro (by with_reducible rfl) ?_
              conv => whnf
              refine And.intro (by with_reducible rfl) ?_
              conv => whnf
              refine And.intro (by (exact of_skip hx (by have := hb s (List.mem_of_getElem? hx); simp only [wrap_i64] at *; omega))) ?_
              conv => whnf
              refine And.intro (by with_reducible rfl) ?_
              refine And.intro (by with_reducible rfl) ?_
              conv => whnf
              refine And.intro (by with_reducible rfl) ?_
              conv => whnf
              refine And.intro (by with_reducible rfl) ?_
              conv => whnf
              refine And.intro (by with_reducible rfl) ?_
              conv => whnf
              refine And.intro (by with_reducible rfl) ?_
              conv => whnf
              refine And.intro (by with_reducible rfl) ?_
              conv => whnf
              refine And.intro (by with_reducible rfl) ?_
              conv => whnf
              refine And.intro (by with_reducible rfl) ?_
              conv => whnf
              refine And.intro (by with_reducible rfl) ?_
              conv => whnf
              refine And.intro (by with_reducible rfl) ?_
              conv => whnf
              refine And.intro (by with_reducible rfl) ?_
              conv => whnf
              refine And.intro (by with_reducible rfl) ?_
              conv => whnf
              refine And.intro (by with_reducible rfl) ?_
              conv => whnf
              refine And.intro (by (have := hb s (List.mem_of_getElem? hx); simp only [wrap_i64] at *; omega)) ?_
              conv => whnf
              refine And.intro (by with_reducible rfl) ?_
              conv => whnf
              refine And.intro (by with_reducible rfl) ?_
              conv => whnf
              refine And.intro (by with_reducible rfl) ?_
              conv => whnf
              refine And.intro (by with_reducible rfl) ?_
              conv => whnf
              refine And.intro (by with_reducible rfl) ?_
              conv => whnf
              refine And.intro (by with_reducible rfl) ?_
              conv => whnf
              refine And.intro (by with_reducible rfl) ?_
              conv => whnf
              refine And.intro (by with_reducible rfl) ?_
              exact True.intro
      · replace hc1 := of_decide_eq_false hc1
        conv => whnf
        refine AV.of_eqv ?_
        conv => whnf
        refine And.intro (by with_reducible rfl) ?_
        conv => whnf
        refine And.intro (by (rw [ofB_pos (by assumption), take_end (by simp only [map_rows] at *; omega)])) ?_
        exact True.intro
theorem shl_bit {n s : Int} (h1 : n ≤ s) (hn : 0 ≤ n) (h2 : IntKind.i64.wrap (s - n) ≤ 7) (hb : s ≤ 9223372036854775807) : IntKind.i64.wrap (1 * 2 ^ (min (IntKind.u64.wrap (IntKind.i64.wrap (s - n))).toNat IntKind.i64.bits)) = ((2 ^ (IntKind.i64.wrap (s - n)).toNat : Nat) : Int) := by
  have e : IntKind.i64.wrap (s - n) = s - n := by rw [wrap_i64]; omega
  rw [e] at h2 ⊢
  have e1 : (IntKind.u64.wrap (s - n)).toNat = (s - n).toNat := by rw [wrap_u64]; omega
  have e2 : min (s - n).toNat IntKind.i64.bits = (s - n).toNat := Nat.min_eq_left (by show _ ≤ 64; omega)
  rw [e1, e2]
  rcases lt8 (j := (s - n).toNat) (by omega) with h | h | h | h | h | h | h | h <;> rw [h] <;> decide
theorem ofB_skip {n s : Int} {l : List Int} {i : Nat} (hx : l[i]? = some s) (h : ¬ (n ≤ s ∧ 0 ≤ n ∧ s - n ≤ 7)) : ofB n (l.take i) = ofB n (l.take (i + 1)) := by
  by_cases hn : n < 0
  · rw [ofB_neg hn, ofB_neg hn]
  · rw [ofB_pos hn, ofB_pos hn]; exact of_skip hx (by omega)
theorem rof_good (n : Int) (l : List Int) (hl : l.length ≤ 1000000) (hb : ∀ s ∈ l, s ≤ 9223372036854775807) : Good Try.prog 107 [.int .i64 n, .sl .sh 1 (l.map i1)] (.tuple [.int .i64 n, .int .i64 (ofB n l)]) := by
  apply good_at ak107 rfl rfl rfl
  conv => whnf
  refine loop_at (α := Nat) [] (fun i => [(11, .int .i64 (i : Int)), (6, .int .i64 (ofB n (l.take i)))]) (fun i => []) (fun i => i ≤ l.length) (fun i => l.length - i) (0) (st_of ?_) ?_ (by rintro i _; rfl) ?_
  · conv => whnf
    refine And.intro (by with_reducible rfl) ?_
    conv => whnf
    refine And.intro (by with_reducible rfl) ?_
    conv => whnf
    refine And.intro (by with_reducible rfl) ?_
    conv => whnf
    refine And.intro (by with_reducible rfl) ?_
    conv => whnf
    refine And.intro (by (unfold ofB; split <;> rfl)) ?_
    conv => whnf
    refine And.intro (by with_reducible rfl) ?_
    conv => whnf
    refine And.intro (by with_reducible rfl) ?_
    conv => whnf
    refine And.intro (by decide) ?_
    exact True.intro
  · omega
  · rintro i nextl0 hIl0 ihl0
    try dsimp only at hIl0
    conv => whnf
    refine And.intro (fun hc0 => ?_) (fun hc0 => ?_)
    · replace hc0 := of_decide_eq_true hc0
      conv => whnf
      refine And.intro (by omega) ?_
      refine ex_row (l := l) ?_ fun s hx => ?_
      · (simp only [map_rows] at *; omega)
      · simp only [toNat_ofNat] at hx
        conv => whnf
        refine And.intro (fun hc2 => ?_) (fun hc2 => ?_)
        · replace hc2 := of_decide_eq_true hc2
          conv => whnf
          refine br_l rfl rfl ?_
          conv => whnf
          refine br_l rfl rfl ?_
          conv => whnf
          refine And.intro (fun hc3 => ?_) (fun hc3 => ?_)
          · replace hc3 := of_decide_eq_true hc3
            conv => whnf
            refine br_l rfl rfl ?_
            conv => whnf
            refine br_l rfl rfl ?_
            conv => whnf
            refine br_l rfl rfl ?_
            conv => whnf
            refine br_l rfl rfl ?_
            conv => whnf
            refine And.intro (fun hc4 => ?_) (fun hc4 => ?_)
            · replace hc4 := of_decide_eq_true hc4
              conv => whnf
              refine And.intro (by (simp only [wrap_u64]; omega)) ?_
              conv => whnf
              refine ihl0 (i + 1) _ ?_ ?_ (st_of ?_)
              · (simp only [map_rows] at *; omega)
              · (simp only [map_rows] at *; omega)
              · conv => whnf
                refine And.intro (by with_reducible rfl) ?_
                conv => whnf
                refine And.intro (by with_reducible rfl) ?_
                conv => whnf
                refine And.intro (by with_reducible rfl) ?_
                conv => whnf
                refine And.intro (by with_reducible rfl) ?_
                conv => whnf
                refine And.intro (by (rw [ofB_pos (by omega), ofB_pos (by omega), shl_bit (by omega) (by omega) (by omega) (hb s (List.mem_of_getElem? hx))]; exact of_step hx (by omega) (by omega) (by omega) (hb s (List.mem_of_getElem? hx)))) ?_
                conv => whnf
                refine And.intro (by with_reducible rfl) ?_
                conv => whnf
                refine And.intro (by with_reducible rfl) ?_
                conv => whnf
                refine And.intro (by (simp only [wrap_i64, wrap_u64, wrap_u32, wrap_u16, wrap_u8, maxLen_eq, mmI] at *; omega)) ?_
                exact True.intro
            · replace hc4 := of_decide_eq_false hc4
              conv => whnf
              refine ihl0 (i + 1) _ ?_ ?_ (st_of ?_)
              · (simp only [map_rows] at *; omega)
              · (simp only [map_rows] at *; omega)
              · conv => whnf
                refine And.intro (by with_reducible rfl) ?_
                conv => whnf
                refine And.intro (by with_reducible rfl) ?_
                conv => whnf
                refine And.intro (by with_reducible rfl) ?_
                conv => whnf
                refine And.intro (by with_reducible rfl) ?_
                conv => whnf
                refine And.intro (by (exact ofB_skip hx (by have := hb s (List.mem_of_getElem? hx); simp only [wrap_i64] at *; omega))) ?_
                conv => whnf
                refine And.intro (by with_reducible rfl) ?_
                conv => whnf
                refine And.intro (by with_reducible rfl) ?_
                conv => whnf
                refine And.intro (by (simp only [wrap_i64, wrap_u64, wrap_u32, wrap_u16, wrap_u8, maxLen_eq, mmI] at *; omega)) ?_
                exact True.intro
          · replace hc3 := of_decide_eq_false hc3
            conv => whnf
            refine br_r rfl rfl ?_
            conv => whnf
            refine br_r rfl rfl ?_
            conv => whnf
            refine br_r rfl rfl ?_
            conv => whnf
            refine br_r rfl rfl ?_
            conv => whnf
            refine br_r rfl rfl ?_
            conv => whnf
            refine ihl0 (i + 1) _ ?_ ?_ (st_of ?_)
            · (simp only [map_rows] at *; omega)
            · (simp only [map_rows] at *; omega)
            · conv => whnf
              refine And.intro (by with_reducible rfl) ?_
              conv => whnf
              refine And.intro (by with_reducible rfl) ?_
              conv => whnf
              refine And.intro (by with_reducible rfl) ?_
              conv => whnf
              refine And.intro (by with_reducible rfl) ?_
              conv => whnf
              refine And.intro (by (exact ofB_skip hx (by have := hb s (List.mem_of_getElem? hx); simp only [wrap_i64] at *; omega))) ?_
              conv => whnf
              refine And.intro (by with_reducible rfl) ?_
              conv => whnf
              refine And.intro (by with_reducible rfl) ?_
              conv => whnf
              refine And.intro (by (simp only [wrap_i64, wrap_u64, wrap_u32, wrap_u16, wrap_u8, maxLen_eq, mmI] at *; omega)) ?_
              exact True.intro
        · replace hc2 := of_decide_eq_false hc2
          conv => whnf
          refine br_r rfl rfl ?_
          conv => whnf
          refine br_r rfl rfl ?_
          conv => whnf
          refine br_r rfl rfl ?_
          conv => whnf
          refine br_r rfl rfl ?_
          conv => whnf
          refine br_r rfl rfl ?_
          conv => whnf
          refine br_r rfl rfl ?_
          conv => whnf
          refine br_r rfl rfl ?_
          conv => whnf
          refine br_r rfl rfl ?_
          conv => whnf
          refine ihl0 (i + 1) _ ?_ ?_ (st_of ?_)
          · (simp only [map_rows] at *; omega)
          · (simp only [map_rows] at *; omega)
          · conv => whnf
            refine And.intro (by with_reducible rfl) ?_
            conv => whnf
            refine And.intro (by with_reducible rfl) ?_
            conv => whnf
            refine And.intro (by with_reducible rfl) ?_
            conv => whnf
            refine And.intro (by with_reducible rfl) ?_
            conv => whnf
            refine And.intro (by (exact ofB_skip hx (by have := hb s (List.mem_of_getElem? hx); simp only [wrap_i64] at *; omega))) ?_
            conv => whnf
            refine And.intro (by with_reducible rfl) ?_
            conv => whnf
            refine And.intro (by with_reducible rfl) ?_
            conv => whnf
            refine And.intro (by (simp only [wrap_i64, wrap_u64, wrap_u32, wrap_u16, wrap_u8, maxLen_eq, mmI] at *; omega)) ?_
            exact True.intro
    · replace hc0 := of_decide_eq_false hc0
      conv => whnf
      refine AV.of_eqv ?_
      conv => whnf
      refine And.intro (by with_reducible rfl) ?_
      conv => whnf
      refine And.intro (by (rw [take_end (by simp only [map_rows] at *; omega)])) ?_
      exact True.intro
end Go.Proofs.Ytkcdeefnkbbacaa

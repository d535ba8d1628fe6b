/- Items in bytes: the contracts of the program's and of the document's functions. -/
import Derived.Test.YtkcdeefnkbbacaaW05
import Derived.Test.YtkcdeefnkbbacaaW07c
import Derived.Test.YtkcdeefnkbbacaaNumV
set_option maxRecDepth 100000
set_option linter.unusedSimpArgs false
set_option linter.unusedVariables false
namespace Go.Proofs.Ytkcdeefnkbbacaa
open Go.RowKit
set_option maxHeartbeats 4000000
abbrev It := Int × Int × Int × Int
def it (x : It) : List AV := [.int .i64 x.1, .int .i64 x.2.1, .int .u32 x.2.2.1, .int .i64 x.2.2.2]
abbrev eI (x : It) : AV := .agg [.int .i64 x.1, .int .i64 x.2.1, .int .u32 x.2.2.1, .int .i64 x.2.2.2]
def okI (x : It) : Prop := 0 ≤ x.1 ∧ x.1 < 16 ∧ 0 ≤ x.2.1 ∧ x.2.1 ≤ 2 ∧ (((x.2.2.1 = 4294967295 ∨ x.2.2.1 = 0) ∧ x.2.2.2 = -1) ∨ (¬ (x.2.2.1 = 4294967295 ∨ x.2.2.1 = 0) ∧ 0 ≤ x.2.2.2 ∧ x.2.2.2 < 16 ∧ x.2.2.2 ≠ x.1 ∧ x.2.2.1 ≤ 983040))
instance (x : It) : Decidable (okI x) := by unfold okI; infer_instance
theorem iright_good (x : It) : Good Try.prog 95 [eI x] (.bool (decide (okI x))) := by
  apply good_at ak95 rfl rfl rfl
  conv => whnf
  refine ⟨_, right3_good _, ?_⟩
  conv => whnf
  refine And.intro (fun hc0 => ?_) (fun hc0 => ?_)
  · replace hc0 := of_decide_eq_true (Bool.not_eq_false' _ |>.mp hc0)
    conv => whnf
    refine br_l rfl rfl ?_
    conv => whnf
    refine br_l rfl rfl ?_
    conv => whnf
    refine br_r rfl rfl ?_
    conv => whnf
    refine And.intro (fun hc1 => ?_) (fun hc1 => ?_)
    · replace hc1 := of_decide_eq_false hc1
      conv => whnf
      refine br_l rfl rfl ?_
      conv => whnf
      refine br_l rfl rfl ?_
      conv => whnf
      refine br_r rfl rfl ?_
      conv => whnf
      refine And.intro (fun hc2 => ?_) (fun hc2 => ?_)
      · replace hc2 := of_decide_eq_true hc2
        conv => whnf
        refine AV.of_eqv ?_
        conv => whnf
        refine And.intro (by (exact (decide_eq_false (by unfold okI; omega)).symm)) ?_
        exact True.intro
      · replace hc2 := of_decide_eq_false hc2
        conv => whnf
        refine And.intro (fun hc3 => ?_) (fun hc3 => ?_)
        · replace hc3 := of_decide_eq_true hc3
          conv => whnf
          refine AV.of_eqv ?_
          conv => whnf
          refine And.intro (by (exact decide_eq_decide.2 (by unfold okI; omega))) ?_
          exact True.intro
        · replace hc3 := of_decide_eq_false hc3
          conv => whnf
          refine And.intro (fun hc4 => ?_) (fun hc4 => ?_)
          · replace hc4 := of_decide_eq_true hc4
            conv => whnf
            refine AV.of_eqv ?_
            conv => whnf
            refine And.intro (by (exact decide_eq_decide.2 (by unfold okI; omega))) ?_
            exact True.intro
          · replace hc4 := of_decide_eq_false hc4
            conv => whnf
            refine ⟨_, right3_good _, ?_⟩
            conv => whnf
            refine And.intro (fun hc5 => ?_) (fun hc5 => ?_)
            · replace hc5 := of_decide_eq_true hc5
              conv => whnf
              refine br_l rfl rfl ?_
              conv => whnf
              refine br_l rfl rfl ?_
              conv => whnf
              refine br_l rfl rfl ?_
              conv => whnf
              refine br_l rfl rfl ?_
              conv => whnf
              refine br_l rfl rfl ?_
              conv => whnf
              refine And.intro (fun hc6 => ?_) (fun hc6 => ?_)
              · replace hc6 := of_decide_eq_false (Bool.not_eq_true' _ |>.mp hc6)
                conv => whnf
                refine br_l rfl rfl ?_
                conv => whnf
                refine br_l rfl rfl ?_
                conv => whnf
                refine br_l rfl rfl ?_
                conv => whnf
                refine AV.of_eqv ?_
                conv => whnf
                refine And.intro (by (exact decide_eq_decide.2 (by unfold okI; omega))) ?_
                exact True.intro
              · replace hc6 := of_decide_eq_true (Bool.not_eq_false' _ |>.mp hc6)
                conv => whnf
                refine br_r rfl rfl ?_
                conv => whnf
                refine br_r rfl rfl ?_
                conv => whnf
                refine br_r rfl rfl ?_
                conv => whnf
                refine AV.of_eqv ?_
                conv => whnf
                refine And.intro (by (exact (decide_eq_false (by unfold okI; omega)).symm)) ?_
                exact True.intro
            · replace hc5 := of_decide_eq_false hc5
              conv => whnf
              refine br_r rfl rfl ?_
              conv => whnf
              refine br_r rfl rfl ?_
              conv => whnf
              refine br_r rfl rfl ?_
              conv => whnf
              refine br_r rfl rfl ?_
              conv => whnf
              refine br_r rfl rfl ?_
              conv => whnf
              refine br_r rfl rfl ?_
              conv => whnf
              refine br_r rfl rfl ?_
              conv => whnf
              refine br_r rfl rfl ?_
              conv => whnf
              refine br_r rfl rfl ?_
              conv => whnf
              refine AV.of_eqv ?_
              conv => whnf
              refine And.intro (by (exact (decide_eq_false (by unfold okI; omega)).symm)) ?_
              exact True.intro
    · replace hc1 := of_decide_eq_true hc1
      conv => whnf
      refine br_r rfl rfl ?_
      conv => whnf
      refine br_r rfl rfl ?_
      conv => whnf
      refine br_l rfl rfl ?_
      conv => whnf
      refine br_l rfl rfl ?_
      conv => whnf
      refine AV.of_eqv ?_
      conv => whnf
      refine And.intro (by (exact (decide_eq_false (by unfold okI; omega)).symm)) ?_
      exact True.intro
  · replace hc0 := of_decide_eq_false (Bool.not_eq_true' _ |>.mp hc0)
    conv => whnf
    refine br_r rfl rfl ?_
    conv => whnf
    refine br_r rfl rfl ?_
    conv => whnf
    refine br_l rfl rfl ?_
    conv => whnf
    refine br_r rfl rfl ?_
    conv => whnf
    refine br_r rfl rfl ?_
    conv => whnf
    refine br_r rfl rfl ?_
    conv => whnf
    refine br_l rfl rfl ?_
    conv => whnf
    refine br_l rfl rfl ?_
    conv => whnf
    refine AV.of_eqv ?_
    conv => whnf
    refine And.intro (by (exact (decide_eq_false (by unfold okI; omega)).symm)) ?_
    exact True.intro
theorem riright_good (x : It) : Good Try.prog 139 [eI x] (.bool (decide (okI x))) := by
  apply good_at ak139 rfl rfl rfl
  conv => whnf
  refine ⟨_, rright3_good _, ?_⟩
  conv => whnf
  refine And.intro (fun hc0 => ?_) (fun hc0 => ?_)
  · replace hc0 := of_decide_eq_true (Bool.not_eq_false' _ |>.mp hc0)
    conv => whnf
    refine br_l rfl rfl ?_
    conv => whnf
    refine br_l rfl rfl ?_
    conv => whnf
    refine br_r rfl rfl ?_
    conv => whnf
    refine And.intro (fun hc1 => ?_) (fun hc1 => ?_)
    · replace hc1 := of_decide_eq_false hc1
      conv => whnf
      refine br_l rfl rfl ?_
      conv => whnf
      refine br_l rfl rfl ?_
      conv => whnf
      refine br_r rfl rfl ?_
      conv => whnf
      refine And.intro (fun hc2 => ?_) (fun hc2 => ?_)
      · replace hc2 := of_decide_eq_true hc2
        conv => whnf
        refine AV.of_eqv ?_
        conv => whnf
        refine And.intro (by (exact (decide_eq_false (by unfold okI; omega)).symm)) ?_
        exact True.intro
      · replace hc2 := of_decide_eq_false hc2
        conv => whnf
        refine And.intro (fun hc3 => ?_) (fun hc3 => ?_)
        · replace hc3 := of_decide_eq_true hc3
          conv => whnf
          refine br_l rfl rfl ?_
          conv => whnf
          refine AV.of_eqv ?_
          conv => whnf
          refine And.intro (by (exact decide_eq_decide.2 (by unfold okI; omega))) ?_
          exact True.intro
        · replace hc3 := of_decide_eq_false hc3
          conv => whnf
          refine And.intro (fun hc4 => ?_) (fun hc4 => ?_)
          · replace hc4 := of_decide_eq_true hc4
            conv => whnf
            refine AV.of_eqv ?_
            conv => whnf
            refine And.intro (by (exact decide_eq_decide.2 (by unfold okI; omega))) ?_
            exact True.intro
          · replace hc4 := of_decide_eq_false hc4
            conv => whnf
            refine ⟨_, rright3_good _, ?_⟩
            conv => whnf
            refine And.intro (fun hc5 => ?_) (fun hc5 => ?_)
            · replace hc5 := of_decide_eq_true hc5
              conv => whnf
              refine br_l rfl rfl ?_
              conv => whnf
              refine br_l rfl rfl ?_
              conv => whnf
              refine br_l rfl rfl ?_
              conv => whnf
              refine br_l rfl rfl ?_
              conv => whnf
              refine br_l rfl rfl ?_
              conv => whnf
              refine And.intro (fun hc6 => ?_) (fun hc6 => ?_)
              · replace hc6 := of_decide_eq_false (Bool.not_eq_true' _ |>.mp hc6)
                conv => whnf
                refine br_l rfl rfl ?_
                conv => whnf
                refine br_l rfl rfl ?_
                conv => whnf
                refine br_l rfl rfl ?_
                conv => whnf
                refine AV.of_eqv ?_
                conv => whnf
                refine And.intro (by (exact decide_eq_decide.2 (by unfold okI; omega))) ?_
                exact True.intro
              · replace hc6 := of_decide_eq_true (Bool.not_eq_false' _ |>.mp hc6)
                conv => whnf
                refine br_r rfl rfl ?_
                conv => whnf
                refine br_r rfl rfl ?_
                conv => whnf
                refine br_r rfl rfl ?_
                conv => whnf
                refine AV.of_eqv ?_
                conv => whnf
                refine And.intro (by (exact (decide_eq_false (by unfold okI; omega)).symm)) ?_
                exact True.intro
            · replace hc5 := of_decide_eq_false hc5
              conv => whnf
              refine br_r rfl rfl ?_
              conv => whnf
              refine br_r rfl rfl ?_
              conv => whnf
              refine br_r rfl rfl ?_
              conv => whnf
              refine br_r rfl rfl ?_
              conv => whnf
              refine br_r rfl rfl ?_
              conv => whnf
              refine br_r rfl rfl ?_
              conv => whnf
              refine br_r rfl rfl ?_
              conv => whnf
              refine br_r rfl rfl ?_
              conv => whnf
              refine br_r rfl rfl ?_
              conv => whnf
              refine AV.of_eqv ?_
              conv => whnf
              refine And.intro (by (exact (decide_eq_false (by unfold okI; omega)).symm)) ?_
              exact True.intro
    · replace hc1 := of_decide_eq_true hc1
      conv => whnf
      refine br_r rfl rfl ?_
      conv => whnf
      refine br_r rfl rfl ?_
      conv => whnf
      refine br_l rfl rfl ?_
      conv => whnf
      refine br_l rfl rfl ?_
      conv => whnf
      refine AV.of_eqv ?_
      conv => whnf
      refine And.intro (by (exact (decide_eq_false (by unfold okI; omega)).symm)) ?_
      exact True.intro
  · replace hc0 := of_decide_eq_false (Bool.not_eq_true' _ |>.mp hc0)
    conv => whnf
    refine br_r rfl rfl ?_
    conv => whnf
    refine br_r rfl rfl ?_
    conv => whnf
    refine br_l rfl rfl ?_
    conv => whnf
    refine br_r rfl rfl ?_
    conv => whnf
    refine br_r rfl rfl ?_
    conv => whnf
    refine br_r rfl rfl ?_
    conv => whnf
    refine br_l rfl rfl ?_
    conv => whnf
    refine br_l rfl rfl ?_
    conv => whnf
    refine AV.of_eqv ?_
    conv => whnf
    refine And.intro (by (exact (decide_eq_false (by unfold okI; omega)).symm)) ?_
    exact True.intro
def p255 (p : Int) : Int := if p = -1 then 255 else p
def ib (x : It) : By := nb (16 * x.1 + x.2.1) 1 ++ nb x.2.2.1 4 ++ nb (p255 x.2.2.2) 1
theorem ib_len (x : It) : (ib x).length = 6 := by simp [ib, nb_len]
def ibR (x : It) : By × Int := if okI x then (ib x, 0) else ([], 1)
theorem ibR_e (x : It) : (okI x ∧ (ibR x).2 = 0 ∧ (ibR x).1 = ib x) ∨ (¬ okI x ∧ (ibR x).2 = 1 ∧ (ibR x).1 = []) := by
  unfold ibR
  split
  · exact .inl ⟨by assumption, rfl, rfl⟩
  · exact .inr ⟨by assumption, rfl, rfl⟩
theorem ibR_yes {x : It} (h : okI x) : ibR x = (ib x, 0) := by unfold ibR; rw [if_pos h]
theorem ibR_no {x : It} (h : ¬ okI x) : ibR x = ([], 1) := by unfold ibR; rw [if_neg h]
theorem nb_minus : nb 18446744073709551615 1 = nb 255 1 := by decide
theorem ib_1 {x : It} (h : okI x) : IntKind.u64.wrap (IntKind.i64.wrap (IntKind.i64.wrap (16 * x.1) + x.2.1)) = 16 * x.1 + x.2.1 := by unfold okI at h; simp only [wrap_i64, wrap_u64]; omega
theorem ib_1' {x : It} (h : okI x) : IntKind.u64.wrap (IntKind.i64.wrap (IntKind.i64.wrap (x.1 * 16) + x.2.1)) = 16 * x.1 + x.2.1 := by unfold okI at h; simp only [wrap_i64, wrap_u64]; omega
theorem ib_2 {x : It} (h : u32b x.2.2.1) : IntKind.u64.wrap x.2.2.1 = x.2.2.1 := by unfold u32b at h; simp only [wrap_u64]; omega
theorem ib_3 {x : It} (h : okI x) : nb (IntKind.u64.wrap x.2.2.2) 1 = nb (p255 x.2.2.2) 1 := by
  unfold p255
  split
  · rename_i e; rw [e]; exact nb_minus
  · rw [show IntKind.u64.wrap x.2.2.2 = x.2.2.2 by unfold okI at h; rw [wrap_u64]; omega]
theorem ib_3' {x : It} (h : okI x) (e : ¬ x.2.2.2 = -1) : nb (IntKind.u64.wrap x.2.2.2) 1 = nb (p255 x.2.2.2) 1 := ib_3 h
theorem ib_4 {x : It} (e : x.2.2.2 = -1) : nb (IntKind.u64.wrap 255) 1 = nb (p255 x.2.2.2) 1 := by unfold p255; rw [if_pos e]; rfl
theorem ibytes_good (x : It) (hd : u32b x.2.2.1) : Good Try.prog 93 [eI x] (.tuple [.str (ibR x).1, .int .i64 (ibR x).2]) := by
  have he := ibR_e x
  apply good_at ak93 rfl rfl rfl
  conv => whnf
  refine ⟨_, iright_good _, ?_⟩
  conv => whnf
  refine And.intro (fun hc0 => ?_) (fun hc0 => ?_)
  · replace hc0 := of_decide_eq_false (Bool.not_eq_true' _ |>.mp hc0)
    conv => whnf
    refine AV.of_eqv ?_
    conv => whnf
    refine And.intro (by (rw [ibR_no (by assumption)])) ?_
    conv => whnf
    refine And.intro (by (rw [ibR_no (by assumption)])) ?_
    exact True.intro
  · replace hc0 := of_decide_eq_true (Bool.not_eq_false' _ |>.mp hc0)
    conv => whnf
    refine And.intro (fun hc1 => ?_) (fun hc1 => ?_)
    · replace hc1 := of_decide_eq_true hc1
      conv => whnf
      refine ⟨_, (num_good _ _ 1) ?_ ?_ ?_ ?_, ?_⟩
      · (simp only [wrap_u64]; omega)
      · (simp only [wrap_u64]; omega)
      · decide
      · decide
      · conv => whnf
        refine ⟨_, (num_good _ _ 4) ?_ ?_ ?_ ?_, ?_⟩
        · (simp only [wrap_u64]; omega)
        · (simp only [wrap_u64]; omega)
        · decide
        · decide
        · conv => whnf
          refine And.intro (by (simp only [nb_len, maxLen_eq, List.length_append]; omega)) ?_
          conv => whnf
          refine ⟨_, (num_good _ _ 1) ?_ ?_ ?_ ?_, ?_⟩
          · decide
          · decide
          · decide
          · decide
          · conv => whnf
            refine And.intro (by (simp only [nb_len, maxLen_eq, List.length_append]; omega)) ?_
            conv => whnf
            refine AV.of_eqv ?_
            conv => whnf
            refine And.intro (by (rw [ibR_yes (by assumption)]; unfold ib; rw [ib_1 (by assumption), ib_2 hd, ib_4 (by assumption)])) ?_
            conv => whnf
            refine And.intro (by (rw [ibR_yes (by assumption)]; done)) ?_
            exact True.intro
    · replace hc1 := of_decide_eq_false hc1
      conv => whnf
      refine ⟨_, (num_good _ _ 1) ?_ ?_ ?_ ?_, ?_⟩
      · (simp only [wrap_u64]; omega)
      · (simp only [wrap_u64]; omega)
      · decide
      · decide
      · conv => whnf
        refine ⟨_, (num_good _ _ 4) ?_ ?_ ?_ ?_, ?_⟩
        · (simp only [wrap_u64]; omega)
        · (simp only [wrap_u64]; omega)
        · decide
        · decide
        · conv => whnf
          refine And.intro (by (simp only [nb_len, maxLen_eq, List.length_append]; omega)) ?_
          conv => whnf
          refine ⟨_, (num_good _ _ 1) ?_ ?_ ?_ ?_, ?_⟩
          · (simp only [wrap_u64]; omega)
          · (simp only [wrap_u64]; omega)
          · decide
          · decide
          · conv => whnf
            refine And.intro (by (simp only [nb_len, maxLen_eq, List.length_append]; omega)) ?_
            conv => whnf
            refine AV.of_eqv ?_
            conv => whnf
            refine And.intro (by (rw [ibR_yes (by assumption)]; unfold ib; rw [ib_1 (by assumption), ib_2 hd, ib_3 (by assumption)])) ?_
            conv => whnf
            refine And.intro (by (rw [ibR_yes (by assumption)]; done)) ?_
            exact True.intro
theorem ribytes_good (x : It) (hd : u32b x.2.2.1) : Good Try.prog 131 [eI x] (.tuple [.str (ibR x).1, .int .i64 (ibR x).2]) := by
  have he := ibR_e x
  apply good_at ak131 rfl rfl rfl
  conv => whnf
  refine ⟨_, riright_good _, ?_⟩
  conv => whnf
  refine And.intro (fun hc0 => ?_) (fun hc0 => ?_)
  · replace hc0 := of_decide_eq_false (Bool.not_eq_true' _ |>.mp hc0)
    conv => whnf
    refine AV.of_eqv ?_
    conv => whnf
    refine And.intro (by (rw [ibR_no (by assumption)])) ?_
    conv => whnf
    refine And.intro (by (rw [ibR_no (by assumption)])) ?_
    exact True.intro
  · replace hc0 := of_decide_eq_true (Bool.not_eq_false' _ |>.mp hc0)
    conv => whnf
    refine And.intro (by exact rfl) ?_
    conv => whnf
    refine ⟨_, (rnum_good _ _ 1) ?_ ?_ ?_ ?_, ?_⟩
    · (simp only [wrap_u64]; omega)
    · (simp only [wrap_u64]; omega)
    · decide
    · decide
    · conv => whnf
      refine ⟨_, (rnum_good _ _ 4) ?_ ?_ ?_ ?_, ?_⟩
      · (simp only [wrap_u64]; omega)
      · (simp only [wrap_u64]; omega)
      · decide
      · decide
      · conv => whnf
        refine And.intro (by (simp only [nb_len, maxLen_eq, List.length_append]; omega)) ?_
        conv => whnf
        refine ⟨_, (rnum_good _ _ 1) ?_ ?_ ?_ ?_, ?_⟩
        · (simp only [wrap_u64]; omega)
        · (simp only [wrap_u64]; omega)
        · decide
        · decide
        · conv => whnf
          refine And.intro (by (simp only [nb_len, maxLen_eq, List.length_append]; omega)) ?_
          conv => whnf
          refine AV.of_eqv ?_
          conv => whnf
          refine And.intro (by (rw [ibR_yes (by assumption)]; unfold ib; rw [ib_1' (by assumption), ib_2 hd, ib_3 (by assumption)])) ?_
          conv => whnf
          refine And.intro (by (rw [ibR_yes (by assumption)]; done)) ?_
          exact True.intro
/-- an item out of bytes -/
def itm (s : By) : It := (((valB 0 (s.take 1) : Nat) : Int) / 16, ((valB 0 (s.take 1) : Nat) : Int) % 16, ((valB 0 ((s.drop 1).take 4) : Nat) : Int), if ((valB 0 (((s.drop 1).drop 4).take 1) : Nat) : Int) = 255 then -1 else ((valB 0 (((s.drop 1).drop 4).take 1) : Nat) : Int))
theorem itm_d (s : By) : u32b (itm s).2.2.1 := by
  have h := valB_lt 0 ((s.drop 1).take 4)
  have h1 : ((s.drop 1).take 4).length ≤ 4 := by simp; omega
  have h2 : 256 ^ ((s.drop 1).take 4).length ≤ 256 ^ 4 := Nat.pow_le_pow_right (by omega) h1
  have h3 : (256 : Nat) ^ 4 = 4294967296 := by decide
  refine ⟨Int.natCast_nonneg _, ?_⟩
  show ((valB 0 ((s.drop 1).take 4) : Nat) : Int) ≤ 4294967295
  omega
theorem val1_b (s : By) : valB 0 (s.take 1) ≤ 255 := by
  have h := valB_lt 0 (s.take 1)
  have h1 : (s.take 1).length ≤ 1 := by simp; omega
  have h2 : 256 ^ (s.take 1).length ≤ 256 ^ 1 := Nat.pow_le_pow_right (by omega) h1
  omega
def noI : It := (0, 0, 0, 0)
def irdR (s : By) : It × By × Int := if s.length < 6 then (noI, [], 2) else if okI (itm s) then (itm s, s.drop 6, 0) else (noI, [], 3)
theorem irdR_short {s : By} (h : s.length < 6) : irdR s = (noI, [], 2) := by unfold irdR; rw [if_pos h]
theorem irdR_ok {s : By} (h : ¬ s.length < 6) (h2 : okI (itm s)) : irdR s = (itm s, s.drop 6, 0) := by unfold irdR; rw [if_neg h, if_pos h2]
theorem irdR_bad {s : By} (h : ¬ s.length < 6) (h2 : ¬ okI (itm s)) : irdR s = (noI, [], 3) := by unfold irdR; rw [if_neg h, if_neg h2]
abbrev aRd (r : It × By × Int) : AV := .tuple [eI r.1, .str r.2.1, .int .i64 r.2.2]
theorem take_gd {l : By} {k : Int} {n : Nat} {r : By} {e : Int} (h : takeOf l k = (n, r, e)) : Good Try.prog 82 [.str l, .int .i64 k] (.tuple [.int .u64 (n : Nat), .str r, .int .i64 e]) :=
  (take_good l k).eq (by rw [h])
theorem takeOf_ok {l : By} {k : Int} (c : Nat) (hk : k = c) (hc : c ≤ 8) (h : c ≤ l.length) : takeOf l k = (valB 0 (l.take c), l.drop c, 0) := by
  subst hk
  unfold takeOf
  rw [if_neg (by omega), if_neg (by omega), Int.toNat_natCast]
theorem take_ok' (l : By) (k : Int) (c : Nat) (hk : k = c) (hc : c ≤ 8) (h : c ≤ l.length) : Good Try.prog 82 [.str l, .int .i64 k] (.tuple [.int .u64 (valB 0 (l.take c) : Nat), .str (l.drop c), .int .i64 0]) :=
  take_gd (takeOf_ok c hk hc h)
theorem itm_of {s : By} {x : It} (h1 : x.1 = ((valB 0 (s.take 1) : Nat) : Int) / 16) (h2 : x.2.1 = ((valB 0 (s.take 1) : Nat) : Int) % 16) (h3 : x.2.2.1 = ((valB 0 ((s.drop 1).take 4) : Nat) : Int)) (h4 : x.2.2.2 = if ((valB 0 (((s.drop 1).drop 4).take 1) : Nat) : Int) = 255 then -1 else ((valB 0 (((s.drop 1).drop 4).take 1) : Nat) : Int)) : x = itm s := by
  obtain ⟨a, b, c, d⟩ := x
  simp only at h1 h2 h3 h4
  subst h1 h2 h3 h4
  rfl
theorem iright4 {s : By} {a b c d : Int} (h1 : a = (itm s).1) (h2 : b = (itm s).2.1) (h3 : c = (itm s).2.2.1) (h4 : d = (itm s).2.2.2) : Good Try.prog 95 [.agg [.int .i64 a, .int .i64 b, .int .u32 c, .int .i64 d]] (.bool (decide (okI (itm s)))) := by
  subst h1 h2 h3 h4
  exact iright_good (itm s)
theorem riright4 {s : By} {a b c d : Int} (h1 : a = (itm s).1) (h2 : b = (itm s).2.1) (h3 : c = (itm s).2.2.1) (h4 : d = (itm s).2.2.2) : Good Try.prog 139 [.agg [.int .i64 a, .int .i64 b, .int .u32 c, .int .i64 d]] (.bool (decide (okI (itm s)))) := by
  subst h1 h2 h3 h4
  exact riright_good (itm s)
theorem w64 {n : Nat} (h : n ≤ 255) : IntKind.i64.wrap (n : Int) = n := by rw [wrap_i64]; omega
theorem q16 {n : Nat} (h : n ≤ 255) : IntKind.i64.wrap ((n : Int).tdiv 16) = (n : Int) / 16 := by rw [Int.tdiv_eq_ediv_of_nonneg (by omega), wrap_i64]; omega
theorem q16u {n : Nat} (h : n ≤ 255) : IntKind.i64.wrap (IntKind.u64.wrap ((n : Int).tdiv 16)) = (n : Int) / 16 := by rw [Int.tdiv_eq_ediv_of_nonneg (by omega), wrap_i64, wrap_u64]; omega
theorem r16 (n : Nat) : (n : Int).tmod 16 = (n : Int) % 16 := Int.tmod_eq_emod_of_nonneg (by omega)
theorem r16u {n : Nat} (h : n ≤ 255) : IntKind.i64.wrap ((n : Int).tmod 16) = (n : Int) % 16 := by rw [r16, wrap_i64]; omega
theorem d32 {n : Nat} (h : n ≤ 4294967295) : IntKind.u32.wrap (n : Int) = n := by rw [wrap_u32]; omega
theorem d32' {n : Nat} (h : n ≤ 4294967295) : IntKind.u32.wrap (IntKind.i64.wrap (n : Int)) = n := by rw [wrap_u32, wrap_i64]; omega
theorem iread_good (s : By) : Good Try.prog 94 [.str s] (aRd (irdR s)) := by
  by_cases hl : s.length < 6
  · rw [irdR_short hl]
    apply good_at ak94 rfl rfl rfl
    conv => whnf
    refine And.intro (fun hc0 => ?_) (fun hc0 => ?_)
    · replace hc0 := of_decide_eq_true hc0
      conv => whnf
      refine AV.of_eqv ?_
      conv => whnf
      refine And.intro (by decide) ?_
      conv => whnf
      refine And.intro (by decide) ?_
      conv => whnf
      refine And.intro (by decide) ?_
      conv => whnf
      refine And.intro (by decide) ?_
      conv => whnf
      refine And.intro (by with_reducible rfl) ?_
      conv => whnf
      refine And.intro (by with_reducible rfl) ?_
      exact True.intro
    · replace hc0 := of_decide_eq_false hc0
      (exfalso; omega)
  · have b0 := val1_b s
    have b4 : valB 0 ((s.drop 1).take 4) ≤ 4294967295 := by have := (itm_d s).2; unfold itm at this; simp only at this; omega
    have b5 := val1_b ((s.drop 1).drop 4)
    have f0 : IntKind.i64.wrap ((IntKind.i64.wrap (valB 0 (s.take 1) : Nat)).tdiv 16) = (itm s).1 := by rw [w64 b0, q16 b0]; rfl
    have f1 : (IntKind.i64.wrap (valB 0 (s.take 1) : Nat)).tmod 16 = (itm s).2.1 := by rw [w64 b0, r16]; rfl
    have f2 : IntKind.u32.wrap (IntKind.i64.wrap (valB 0 ((s.drop 1).take 4) : Nat)) = (itm s).2.2.1 := by rw [d32' b4]; rfl
    have f3 : IntKind.i64.wrap (valB 0 (((s.drop 1).drop 4).take 1) : Nat) = 255 → -1 = (itm s).2.2.2 := fun h => by rw [w64 b5] at h; show _ = ite _ _ _; rw [if_pos h]
    have f4 : ¬ IntKind.i64.wrap (valB 0 (((s.drop 1).drop 4).take 1) : Nat) = 255 → IntKind.i64.wrap (valB 0 (((s.drop 1).drop 4).take 1) : Nat) = (itm s).2.2.2 := fun h => by rw [w64 b5] at h ⊢; show _ = ite _ _ _; rw [if_neg h]
    by_cases ho : okI (itm s)
    · rw [irdR_ok hl ho]
      apply good_at ak94 rfl rfl rfl
      conv => whnf
      refine And.intro (fun hc0 => ?_) (fun hc0 => ?_)
      · replace hc0 := of_decide_eq_true hc0
        (exfalso; omega)
      · replace hc0 := of_decide_eq_false hc0
        conv => whnf
        refine loop_run 300 ?_
        conv => whnf
        refine ⟨[], ?_⟩
        refine And.intro (by exact rfl) ?_
        conv => whnf
        refine br_l rfl rfl ?_
        conv => whnf
        refine And.intro (by decide) ?_
        with_reducible refine ⟨_, rfl, ?_⟩
        conv => whnf
        refine ⟨_, (take_ok' _ _ 1) ?_ ?_ ?_, ?_⟩
        · decide
        · decide
        · omega
        · conv => whnf
          refine br_r rfl rfl ?_
          conv => whnf
          refine And.intro (by decide) ?_
          refine And.intro (by decide) ?_
          conv => whnf
          refine ⟨[], ?_⟩
          refine And.intro (by exact rfl) ?_
          conv => whnf
          refine br_l rfl rfl ?_
          conv => whnf
          refine And.intro (by decide) ?_
          with_reducible refine ⟨_, rfl, ?_⟩
          conv => whnf
          refine ⟨_, (take_ok' _ _ 4) ?_ ?_ ?_, ?_⟩
          · decide
          · decide
          · (simp only [List.length_drop]; omega)
          · conv => whnf
            refine br_r rfl rfl ?_
            conv => whnf
            refine And.intro (by decide) ?_
            refine And.intro (by decide) ?_
            conv => whnf
            refine ⟨[], ?_⟩
            refine And.intro (by exact rfl) ?_
            conv => whnf
            refine br_l rfl rfl ?_
            conv => whnf
            refine And.intro (by decide) ?_
            with_reducible refine ⟨_, rfl, ?_⟩
            conv => whnf
            refine ⟨_, (take_ok' _ _ 1) ?_ ?_ ?_, ?_⟩
            · decide
            · decide
            · (simp only [List.length_drop]; omega)
            · conv => whnf
              refine br_r rfl rfl ?_
              conv => whnf
              refine And.intro (by decide) ?_
              refine And.intro (by decide) ?_
              conv => whnf
              refine ⟨[], ?_⟩
              refine And.intro (by exact rfl) ?_
              conv => whnf
              refine br_r rfl rfl ?_
              conv => whnf
              refine And.intro (by decide) ?_
              refine And.intro (by decide) ?_
              conv => whnf
              refine And.intro (fun hc4 => ?_) (fun hc4 => ?_)
              · replace hc4 := of_decide_eq_true hc4
                conv => whnf
                refine And.intro (by decide) ?_
                refine And.intro (by decide) ?_
                conv => whnf
                refine And.intro (by decide) ?_
                refine And.intro (by decide) ?_
                conv => whnf
                refine And.intro (by decide) ?_
                conv => whnf
                refine And.intro (by decide) ?_
                refine And.intro (by decide) ?_
                conv => whnf
                refine And.intro (by decide) ?_
                conv => whnf
                refine And.intro (by decide) ?_
                refine And.intro (by decide) ?_
                conv => whnf
                refine And.intro (by decide) ?_
                refine And.intro (by decide) ?_
                conv => whnf
                refine ⟨_, (iright4 (s := s)) ?_ ?_ ?_ ?_, ?_⟩
                · assumption
                · assumption
                · assumption
                · omega
                · conv => whnf
                  refine And.intro (fun hc5 => ?_) (fun hc5 => ?_)
                  · replace hc5 := of_decide_eq_false (Bool.not_eq_true' _ |>.mp hc5)
                    contradiction
                  · replace hc5 := of_decide_eq_true (Bool.not_eq_false' _ |>.mp hc5)
                    conv => whnf
                    refine AV.of_eqv ?_
                    conv => whnf
                    refine And.intro (by assumption) ?_
                    conv => whnf
                    refine And.intro (by assumption) ?_
                    conv => whnf
                    refine And.intro (by assumption) ?_
                    conv => whnf
                    refine And.intro (by (simp only [List.length_drop]; omega)) ?_
                    conv => whnf
                    refine And.intro (by (simp only [List.drop_drop]; done)) ?_
                    conv => whnf
                    refine And.intro (by with_reducible rfl) ?_
                    exact True.intro
              · replace hc4 := of_decide_eq_false hc4
                conv => whnf
                refine And.intro (by decide) ?_
                refine And.intro (by decide) ?_
                conv => whnf
                refine And.intro (by decide) ?_
                conv => whnf
                refine And.intro (by decide) ?_
                refine And.intro (by decide) ?_
                conv => whnf
                refine And.intro (by decide) ?_
                conv => whnf
                refine And.intro (by decide) ?_
                refine And.intro (by decide) ?_
                conv => whnf
                refine And.intro (by decide) ?_
                refine And.intro (by decide) ?_
                conv => whnf
                refine ⟨_, (iright4 (s := s)) ?_ ?_ ?_ ?_, ?_⟩
                · assumption
                · assumption
                · assumption
                · omega
                · conv => whnf
                  refine And.intro (fun hc6 => ?_) (fun hc6 => ?_)
                  · replace hc6 := of_decide_eq_false (Bool.not_eq_true' _ |>.mp hc6)
                    contradiction
                  · replace hc6 := of_decide_eq_true (Bool.not_eq_false' _ |>.mp hc6)
                    conv => whnf
                    refine AV.of_eqv ?_
                    conv => whnf
                    refine And.intro (by assumption) ?_
                    conv => whnf
                    refine And.intro (by assumption) ?_
                    conv => whnf
                    refine And.intro (by assumption) ?_
                    conv => whnf
                    refine And.intro (by (simp only [List.length_drop]; omega)) ?_
                    conv => whnf
                    refine And.intro (by (simp only [List.drop_drop]; done)) ?_
                    conv => whnf
                    refine And.intro (by with_reducible rfl) ?_
                    exact True.intro
    · rw [irdR_bad hl ho]
      apply good_at ak94 rfl rfl rfl
      conv => whnf
      refine And.intro (fun hc0 => ?_) (fun hc0 => ?_)
      · replace hc0 := of_decide_eq_true hc0
        (exfalso; omega)
      · replace hc0 := of_decide_eq_false hc0
        conv => whnf
        refine loop_run 300 ?_
        conv => whnf
        refine ⟨[], ?_⟩
        refine And.intro (by exact rfl) ?_
        conv => whnf
        refine br_l rfl rfl ?_
        conv => whnf
        refine And.intro (by decide) ?_
        with_reducible refine ⟨_, rfl, ?_⟩
        conv => whnf
        refine ⟨_, (take_ok' _ _ 1) ?_ ?_ ?_, ?_⟩
        · decide
        · decide
        · omega
        · conv => whnf
          refine br_r rfl rfl ?_
          conv => whnf
          refine And.intro (by decide) ?_
          refine And.intro (by decide) ?_
          conv => whnf
          refine ⟨[], ?_⟩
          refine And.intro (by exact rfl) ?_
          conv => whnf
          refine br_l rfl rfl ?_
          conv => whnf
          refine And.intro (by decide) ?_
          with_reducible refine ⟨_, rfl, ?_⟩
          conv => whnf
          refine ⟨_, (take_ok' _ _ 4) ?_ ?_ ?_, ?_⟩
          · decide
          · decide
          · (simp only [List.length_drop]; omega)
          · conv => whnf
            refine br_r rfl rfl ?_
            conv => whnf
            refine And.intro (by decide) ?_
            refine And.intro (by decide) ?_
            conv => whnf
            refine ⟨[], ?_⟩
            refine And.intro (by exact rfl) ?_
            conv => whnf
            refine br_l rfl rfl ?_
            conv => whnf
            refine And.intro (by decide) ?_
            with_reducible refine ⟨_, rfl, ?_⟩
            conv => whnf
            refine ⟨_, (take_ok' _ _ 1) ?_ ?_ ?_, ?_⟩
            · decide
            · decide
            · (simp only [List.length_drop]; omega)
            · conv => whnf
              refine br_r rfl rfl ?_
              conv => whnf
              refine And.intro (by decide) ?_
              refine And.intro (by decide) ?_
              conv => whnf
              refine ⟨[], ?_⟩
              refine And.intro (by exact rfl) ?_
              conv => whnf
              refine br_r rfl rfl ?_
              conv => whnf
              refine And.intro (by decide) ?_
              refine And.intro (by decide) ?_
              conv => whnf
              refine And.intro (fun hc4 => ?_) (fun hc4 => ?_)
              · replace hc4 := of_decide_eq_true hc4
                conv => whnf
                refine And.intro (by decide) ?_
                refine And.intro (by decide) ?_
                conv => whnf
                refine And.intro (by decide) ?_
                refine And.intro (by decide) ?_
                conv => whnf
                refine And.intro (by decide) ?_
                conv => whnf
                refine And.intro (by decide) ?_
                refine And.intro (by decide) ?_
                conv => whnf
                refine And.intro (by decide) ?_
                conv => whnf
                refine And.intro (by decide) ?_
                refine And.intro (by decide) ?_
                conv => whnf
                refine And.intro (by decide) ?_
                refine And.intro (by decide) ?_
                conv => whnf
                refine ⟨_, (iright4 (s := s)) ?_ ?_ ?_ ?_, ?_⟩
                · assumption
                · assumption
                · assumption
                · omega
                · conv => whnf
                  refine And.intro (fun hc5 => ?_) (fun hc5 => ?_)
                  · replace hc5 := of_decide_eq_false (Bool.not_eq_true' _ |>.mp hc5)
                    conv => whnf
                    refine AV.of_eqv ?_
                    conv => whnf
                    refine And.intro (by decide) ?_
                    conv => whnf
                    refine And.intro (by decide) ?_
                    conv => whnf
                    refine And.intro (by decide) ?_
                    conv => whnf
                    refine And.intro (by decide) ?_
                    conv => whnf
                    refine And.intro (by with_reducible rfl) ?_
                    conv => whnf
                    refine And.intro (by with_reducible rfl) ?_
                    exact True.intro
                  · replace hc5 := of_decide_eq_true (Bool.not_eq_false' _ |>.mp hc5)
                    contradiction
              · replace hc4 := of_decide_eq_false hc4
                conv => whnf
                refine And.intro (by decide) ?_
                refine And.intro (by decide) ?_
                conv => whnf
                refine And.intro (by decide) ?_
                conv => whnf
                refine And.intro (by decide) ?_
                refine And.intro (by decide) ?_
                conv => whnf
                refine And.intro (by decide) ?_
                conv => whnf
                refine And.intro (by decide) ?_
                refine And.intro (by decide) ?_
                conv => whnf
                refine And.intro (by decide) ?_
                refine And.intro (by decide) ?_
                conv => whnf
                refine ⟨_, (iright4 (s := s)) ?_ ?_ ?_ ?_, ?_⟩
                · assumption
                · assumption
                · assumption
                · omega
                · conv => whnf
                  refine And.intro (fun hc6 => ?_) (fun hc6 => ?_)
                  · replace hc6 := of_decide_eq_false (Bool.not_eq_true' _ |>.mp hc6)
                    conv => whnf
                    refine AV.of_eqv ?_
                    conv => whnf
                    refine And.intro (by decide) ?_
                    conv => whnf
                    refine And.intro (by decide) ?_
                    conv => whnf
                    refine And.intro (by decide) ?_
                    conv => whnf
                    refine And.intro (by decide) ?_
                    conv => whnf
                    refine And.intro (by with_reducible rfl) ?_
                    conv => whnf
                    refine And.intro (by with_reducible rfl) ?_
                    exact True.intro
                  · replace hc6 := of_decide_eq_true (Bool.not_eq_false' _ |>.mp hc6)
                    contradiction
theorem riread_good (s : By) : Good Try.prog 132 [.str s] (aRd (irdR s)) := by
  by_cases hl : s.length < 6
  · rw [irdR_short hl]
    apply good_at ak132 rfl rfl rfl
    conv => whnf
    refine And.intro (fun hc0 => ?_) (fun hc0 => ?_)
    · replace hc0 := of_decide_eq_true hc0
      conv => whnf
      refine AV.of_eqv ?_
      conv => whnf
      refine And.intro (by decide) ?_
      conv => whnf
      refine And.intro (by decide) ?_
      conv => whnf
      refine And.intro (by decide) ?_
      conv => whnf
      refine And.intro (by decide) ?_
      conv => whnf
      refine And.intro (by with_reducible rfl) ?_
      conv => whnf
      refine And.intro (by with_reducible rfl) ?_
      exact True.intro
    · replace hc0 := of_decide_eq_false hc0
      (exfalso; omega)
  · have b0 := val1_b s
    have b4 : valB 0 ((s.drop 1).take 4) ≤ 4294967295 := by have := (itm_d s).2; unfold itm at this; simp only at this; omega
    have b5 := val1_b ((s.drop 1).drop 4)
    have f0 : IntKind.i64.wrap (IntKind.u64.wrap (((valB 0 (s.take 1) : Nat) : Int).tdiv 16)) = (itm s).1 := by rw [q16u b0]; rfl
    have f1 : IntKind.i64.wrap (((valB 0 (s.take 1) : Nat) : Int).tmod 16) = (itm s).2.1 := by rw [r16u b0]; rfl
    have f2 : IntKind.u32.wrap (valB 0 ((s.drop 1).take 4) : Nat) = (itm s).2.2.1 := by rw [d32 b4]; rfl
    have f3 : ((valB 0 (((s.drop 1).drop 4).take 1) : Nat) : Int) = 255 → -1 = (itm s).2.2.2 := fun h => by show _ = ite _ _ _; rw [if_pos h]
    have f4 : ¬ ((valB 0 (((s.drop 1).drop 4).take 1) : Nat) : Int) = 255 → IntKind.i64.wrap (valB 0 (((s.drop 1).drop 4).take 1) : Nat) = (itm s).2.2.2 := fun h => by rw [w64 b5]; show _ = ite _ _ _; rw [if_neg h]
    by_cases ho : okI (itm s)
    · rw [irdR_ok hl ho]
      apply good_at ak132 rfl rfl rfl
      conv => whnf
      refine And.intro (fun hc0 => ?_) (fun hc0 => ?_)
      · replace hc0 := of_decide_eq_true hc0
        (exfalso; omega)
      · replace hc0 := of_decide_eq_false hc0
        conv => whnf
        refine ⟨_, (rtake_ok _ _ 1) ?_ ?_ ?_, ?_⟩
        · decide
        · decide
        · omega
        · conv => whnf
          refine ⟨_, (rtake_ok _ _ 4) ?_ ?_ ?_, ?_⟩
          · decide
          · decide
          · (simp only [List.length_drop]; omega)
          · conv => whnf
            refine ⟨_, (rtake_ok _ _ 1) ?_ ?_ ?_, ?_⟩
            · decide
            · decide
            · (simp only [List.length_drop]; omega)
            · conv => whnf
              refine And.intro (by decide) ?_
              conv => whnf
              refine And.intro (by decide) ?_
              conv => whnf
              refine And.intro (fun hc1 => ?_) (fun hc1 => ?_)
              · replace hc1 := of_decide_eq_true hc1
                conv => whnf
                refine ⟨_, (riright4 (s := s)) ?_ ?_ ?_ ?_, ?_⟩
                · assumption
                · assumption
                · assumption
                · omega
                · conv => whnf
                  refine And.intro (fun hc2 => ?_) (fun hc2 => ?_)
                  · replace hc2 := of_decide_eq_false (Bool.not_eq_true' _ |>.mp hc2)
                    contradiction
                  · replace hc2 := of_decide_eq_true (Bool.not_eq_false' _ |>.mp hc2)
                    conv => whnf
                    refine AV.of_eqv ?_
                    conv => whnf
                    refine And.intro (by assumption) ?_
                    conv => whnf
                    refine And.intro (by assumption) ?_
                    conv => whnf
                    refine And.intro (by assumption) ?_
                    conv => whnf
                    refine And.intro (by (simp only [List.length_drop]; omega)) ?_
                    conv => whnf
                    refine And.intro (by (simp only [List.drop_drop]; done)) ?_
                    conv => whnf
                    refine And.intro (by with_reducible rfl) ?_
                    exact True.intro
              · replace hc1 := of_decide_eq_false hc1
                conv => whnf
                refine ⟨_, (riright4 (s := s)) ?_ ?_ ?_ ?_, ?_⟩
                · assumption
                · assumption
                · assumption
                · omega
                · conv => whnf
                  refine And.intro (fun hc3 => ?_) (fun hc3 => ?_)
                  · replace hc3 := of_decide_eq_false (Bool.not_eq_true' _ |>.mp hc3)
                    contradiction
                  · replace hc3 := of_decide_eq_true (Bool.not_eq_false' _ |>.mp hc3)
                    conv => whnf
                    refine AV.of_eqv ?_
                    conv => whnf
                    refine And.intro (by assumption) ?_
                    conv => whnf
                    refine And.intro (by assumption) ?_
                    conv => whnf
                    refine And.intro (by assumption) ?_
                    conv => whnf
                    refine And.intro (by (simp only [List.length_drop]; omega)) ?_
                    conv => whnf
                    refine And.intro (by (simp only [List.drop_drop]; done)) ?_
                    conv => whnf
                    refine And.intro (by with_reducible rfl) ?_
                    exact True.intro
    · rw [irdR_bad hl ho]
      apply good_at ak132 rfl rfl rfl
      conv => whnf
      refine And.intro (fun hc0 => ?_) (fun hc0 => ?_)
      · replace hc0 := of_decide_eq_true hc0
        (exfalso; omega)
      · replace hc0 := of_decide_eq_false hc0
        conv => whnf
        refine ⟨_, (rtake_ok _ _ 1) ?_ ?_ ?_, ?_⟩
        · decide
        · decide
        · omega
        · conv => whnf
          refine ⟨_, (rtake_ok _ _ 4) ?_ ?_ ?_, ?_⟩
          · decide
          · decide
          · (simp only [List.length_drop]; omega)
          · conv => whnf
            refine ⟨_, (rtake_ok _ _ 1) ?_ ?_ ?_, ?_⟩
            · decide
            · decide
            · (simp only [List.length_drop]; omega)
            · conv => whnf
              refine And.intro (by decide) ?_
              conv => whnf
              refine And.intro (by decide) ?_
              conv => whnf
              refine And.intro (fun hc1 => ?_) (fun hc1 => ?_)
              · replace hc1 := of_decide_eq_true hc1
                conv => whnf
                refine ⟨_, (riright4 (s := s)) ?_ ?_ ?_ ?_, ?_⟩
                · assumption
                · assumption
                · assumption
                · omega
                · conv => whnf
                  refine And.intro (fun hc2 => ?_) (fun hc2 => ?_)
                  · replace hc2 := of_decide_eq_false (Bool.not_eq_true' _ |>.mp hc2)
                    conv => whnf
                    refine AV.of_eqv ?_
                    conv => whnf
                    refine And.intro (by decide) ?_
                    conv => whnf
                    refine And.intro (by decide) ?_
                    conv => whnf
                    refine And.intro (by decide) ?_
                    conv => whnf
                    refine And.intro (by decide) ?_
                    conv => whnf
                    refine And.intro (by with_reducible rfl) ?_
                    conv => whnf
                    refine And.intro (by with_reducible rfl) ?_
                    exact True.intro
                  · replace hc2 := of_decide_eq_true (Bool.not_eq_false' _ |>.mp hc2)
                    contradiction
              · replace hc1 := of_decide_eq_false hc1
                conv => whnf
                refine ⟨_, (riright4 (s := s)) ?_ ?_ ?_ ?_, ?_⟩
                · assumption
                · assumption
                · assumption
                · omega
                · conv => whnf
                  refine And.intro (fun hc3 => ?_) (fun hc3 => ?_)
                  · replace hc3 := of_decide_eq_false (Bool.not_eq_true' _ |>.mp hc3)
                    conv => whnf
                    refine AV.of_eqv ?_
                    conv => whnf
                    refine And.intro (by decide) ?_
                    conv => whnf
                    refine And.intro (by decide) ?_
                    conv => whnf
                    refine And.intro (by decide) ?_
                    conv => whnf
                    refine And.intro (by decide) ?_
                    conv => whnf
                    refine And.intro (by with_reducible rfl) ?_
                    conv => whnf
                    refine And.intro (by with_reducible rfl) ?_
                    exact True.intro
                  · replace hc3 := of_decide_eq_true (Bool.not_eq_false' _ |>.mp hc3)
                    contradiction
def allR : Nat → List It → By → By × Int
  | _, [], out => (out, 0)
  | i, x :: r, out => if (ibR x).2 = 0 then (if 48 ≤ i then ([], 4) else allR (i + 1) r (out ++ (ibR x).1)) else ([], (ibR x).2)
def all (l : List It) : By × Int := allR 0 l []
theorem drop_at {α : Type} {l : List α} {i : Nat} {x : α} (h : l[i]? = some x) : l.drop i = x :: l.drop (i + 1) := by
  have hi := lt_at h
  rw [List.drop_eq_getElem_cons hi, show l[i] = x by rw [List.getElem?_eq_getElem hi] at h; exact Option.some.inj h]
theorem all_end {l : List It} {i : Nat} {out : By} {r : By × Int} (hi : ¬ i < l.length) (h : allR i (l.drop i) out = r) : r = (out, 0) := by
  rw [List.drop_of_length_le (by omega)] at h; exact h.symm
theorem all_bad {l : List It} {i : Nat} {x : It} {out : By} {r : By × Int} (hx : l[i]? = some x) (h : allR i (l.drop i) out = r) (hb : ¬ (ibR x).2 = 0) : r = ([], (ibR x).2) := by
  rw [drop_at hx] at h; unfold allR at h; rw [if_neg hb] at h; exact h.symm
theorem all_long {l : List It} {i : Nat} {x : It} {out : By} {r : By × Int} (hx : l[i]? = some x) (h : allR i (l.drop i) out = r) (hb : (ibR x).2 = 0) (hi : 48 ≤ i) : r = ([], 4) := by
  rw [drop_at hx] at h; unfold allR at h; rw [if_pos hb, if_pos hi] at h; exact h.symm
theorem all_step {l : List It} {i : Nat} {x : It} {out : By} {r : By × Int} (hx : l[i]? = some x) (h : allR i (l.drop i) out = r) (hb : (ibR x).2 = 0) (hi : ¬ 48 ≤ i) : allR (i + 1) (l.drop (i + 1)) (out ++ (ibR x).1) = r := by
  rw [drop_at hx] at h; unfold allR at h; rw [if_pos hb, if_neg hi] at h; exact h
theorem ibR_len (x : It) : (ibR x).1.length ≤ 6 := by
  rcases ibR_e x with ⟨_, _, h⟩ | ⟨_, _, h⟩
  · rw [h, ib_len]; omega
  · rw [h]; simp
theorem rall_good (l : List It) (hl : l.length ≤ 1000000) (hd : ∀ x ∈ l, u32b x.2.2.1) : Good Try.prog 101 [.sl .sh 4 (l.map it)] (.tuple [.str (all l).1, .int .i64 (all l).2]) := by
  apply good_at ak101 rfl rfl rfl
  conv => whnf
  refine loop_at (α := Nat × By) [] (fun ⟨i, out⟩ => [(11, .int .i64 (i : Int)), (4, .str out)]) (fun ⟨i, out⟩ => []) (fun ⟨i, out⟩ => i ≤ l.length ∧ out.length ≤ 6 * i ∧ allR i (l.drop i) out = all l) (fun ⟨i, out⟩ => l.length - i) ((0, [])) (st_of ?_) ?_ (by rintro ⟨i, out⟩ _; rfl) ?_
  · conv => whnf
    refine And.intro (by with_reducible rfl) ?_
    conv => whnf
    refine And.intro (by with_reducible rfl) ?_
    conv => whnf
    refine And.intro (by with_reducible rfl) ?_
    conv => whnf
    refine And.intro (by with_reducible rfl) ?_
    conv => whnf
    refine And.intro (by decide) ?_
    exact True.intro
  · dsimp only
    (exact ⟨by omega, by simp, rfl⟩)
  · rintro ⟨i, out⟩ nextl0 hIl0 ihl0
    try dsimp only at hIl0
    conv => whnf
    refine And.intro (fun hc0 => ?_) (fun hc0 => ?_)
    · replace hc0 := of_decide_eq_true hc0
      conv => whnf
      refine And.intro (by omega) ?_
      refine ex_row (l := l) ?_ fun x hx => ?_
      · (simp only [map_rows] at *; omega)
      · simp only [toNat_ofNat] at hx
        conv => whnf
        refine ⟨_, (ribytes_good x (hd x (List.mem_of_getElem? hx))), ?_⟩
        conv => whnf
        refine And.intro (fun hc2 => ?_) (fun hc2 => ?_)
        · replace hc2 := of_decide_eq_false (Bool.not_eq_true' _ |>.mp hc2)
          conv => whnf
          refine AV.of_eqv ?_
          conv => whnf
          refine And.intro (by (rw [all_bad hx hIl0.2.2 (by assumption)])) ?_
          conv => whnf
          refine And.intro (by (rw [all_bad hx hIl0.2.2 (by assumption)])) ?_
          exact True.intro
        · replace hc2 := of_decide_eq_true (Bool.not_eq_false' _ |>.mp hc2)
          conv => whnf
          refine And.intro (fun hc3 => ?_) (fun hc3 => ?_)
          · replace hc3 := of_decide_eq_true hc3
            conv => whnf
            refine AV.of_eqv ?_
            conv => whnf
            refine And.intro (by (rw [all_long hx hIl0.2.2 (by assumption) (by omega)])) ?_
            conv => whnf
            refine And.intro (by (rw [all_long hx hIl0.2.2 (by assumption) (by omega)])) ?_
            exact True.intro
          · replace hc3 := of_decide_eq_false hc3
            conv => whnf
            refine And.intro (by (have := ibR_len x; simp only [map_rows, maxLen_eq] at *; omega)) ?_
            conv => whnf
            refine ihl0 ((i + 1, out ++ (ibR x).1)) _ ?_ ?_ (st_of ?_)
            · dsimp only
              (have := lt_at hx; have := ibR_len x; exact ⟨by omega, by simp only [List.length_append]; omega, all_step hx hIl0.2.2 (by assumption) (by omega)⟩)
            · dsimp only
              (simp only [map_rows] at *; omega)
            · conv => whnf
              refine And.intro (by with_reducible rfl) ?_
              conv => whnf
              refine And.intro (by with_reducible rfl) ?_
              conv => whnf
              refine And.intro (by with_reducible rfl) ?_
              conv => whnf
              refine And.intro (by with_reducible rfl) ?_
              conv => whnf
              refine And.intro (by (simp only [wrap_i64, wrap_u64, wrap_u32, wrap_u16, wrap_u8, maxLen_eq, mmI] at *; omega)) ?_
              exact True.intro
    · replace hc0 := of_decide_eq_false hc0
      conv => whnf
      refine AV.of_eqv ?_
      conv => whnf
      refine And.intro (by (rw [all_end (by simp only [map_rows] at *; omega) hIl0.2.2])) ?_
      conv => whnf
      refine And.intro (by (rw [all_end (by simp only [map_rows] at *; omega) hIl0.2.2])) ?_
      exact True.intro
def unR : Nat → By → List It → List It × Int
  | 0, _, out => (out, 0)
  | n + 1, s, out => if s = [] then (out, 0) else if (irdR s).2.2 = 0 then (if 48 ≤ out.length then ([], 4) else unR n (irdR s).2.1 (out ++ [(irdR s).1])) else ([], (irdR s).2.2)
def un (s : By) : List It × Int := unR s.length s []
theorem un_end {n : Nat} {s : By} {out : List It} {r : List It × Int} (hs : s = []) (h : unR n s out = r) : r = (out, 0) := by
  cases n with
  | zero => exact h.symm
  | succ n => unfold unR at h; rw [if_pos hs] at h; exact h.symm
theorem un_bad {n : Nat} {s : By} {out : List It} {r : List It × Int} (hn : s.length ≤ n) (hs : ¬ s = []) (h : unR n s out = r) (hb : ¬ (irdR s).2.2 = 0) : r = ([], (irdR s).2.2) := by
  cases n with
  | zero => exact absurd (List.eq_nil_of_length_eq_zero (by omega)) hs
  | succ n => unfold unR at h; rw [if_neg hs, if_neg hb] at h; exact h.symm
theorem un_long {n : Nat} {s : By} {out : List It} {r : List It × Int} (hn : s.length ≤ n) (hs : ¬ s = []) (h : unR n s out = r) (hb : (irdR s).2.2 = 0) (hl : 48 ≤ out.length) : r = ([], 4) := by
  cases n with
  | zero => exact absurd (List.eq_nil_of_length_eq_zero (by omega)) hs
  | succ n => unfold unR at h; rw [if_neg hs, if_pos hb, if_pos hl] at h; exact h.symm
theorem irdR_drop {s : By} (hb : (irdR s).2.2 = 0) : 6 ≤ s.length ∧ (irdR s).2.1 = s.drop 6 ∧ (irdR s).1 = itm s ∧ okI (itm s) := by
  unfold irdR at *
  split at hb
  · cases hb
  · rename_i h1
    split at hb
    · rename_i h2
      rw [if_neg h1, if_pos h2]
      exact ⟨by omega, rfl, rfl, h2⟩
    · cases hb
theorem un_step {n : Nat} {s : By} {out : List It} {r : List It × Int} (hn : s.length ≤ n) (hs : ¬ s = []) (h : unR n s out = r) (hb : (irdR s).2.2 = 0) (hl : ¬ 48 ≤ out.length) : 1 ≤ n ∧ (irdR s).2.1.length ≤ n - 1 ∧ (out ++ [(irdR s).1]).length ≤ 48 ∧ unR (n - 1) (irdR s).2.1 (out ++ [(irdR s).1]) = r := by
  cases n with
  | zero => exact absurd (List.eq_nil_of_length_eq_zero (by omega)) hs
  | succ n =>
    unfold unR at h; rw [if_neg hs, if_pos hb, if_neg hl] at h
    refine ⟨by omega, ?_, by simp; omega, h⟩
    rw [(irdR_drop hb).2.1]
    simp; omega
theorem ne_len {s : By} (h : (0 : Int) < (s.length : Int)) : ¬ s = [] := by rintro rfl; simp at h
theorem nil_len {s : By} (h : ¬ (0 : Int) < (s.length : Int)) : s = [] := List.eq_nil_of_length_eq_zero (by omega)
theorem unall_good (s : By) : Good Try.prog 24 [.str s] (.tuple [.sl .sh 4 ((un s).1.map it), .int .i64 (un s).2]) := by
  apply good_sh ak24 rfl rfl rfl
  conv => whnf
  refine loop_at (α := Nat × By × List It) [] (fun ⟨n, s', out⟩ => [(0, .str s'), (4, .sl .own 4 (out.map it))]) (fun ⟨n, s', out⟩ => []) (fun ⟨n, s', out⟩ => s'.length ≤ n ∧ out.length ≤ 48 ∧ unR n s' out = un s) (fun ⟨n, s', out⟩ => n) ((s.length, s, [])) (st_of ?_) ?_ (by rintro ⟨n, s', out⟩ _; rfl) ?_
  · conv => whnf
    refine And.intro (by with_reducible rfl) ?_
    conv => whnf
    refine And.intro (by decide) ?_
    exact True.intro
  · dsimp only
    (exact ⟨Nat.le_refl _, by simp, rfl⟩)
  · rintro ⟨n, s', out⟩ nextl0 hIl0 ihl0
    try dsimp only at hIl0
    conv => whnf
    refine And.intro (fun hc0 => ?_) (fun hc0 => ?_)
    · replace hc0 := of_decide_eq_true hc0
      conv => whnf
      refine ⟨_, iread_good _, ?_⟩
      conv => whnf
      refine And.intro (fun hc1 => ?_) (fun hc1 => ?_)
      · replace hc1 := of_decide_eq_false (Bool.not_eq_true' _ |>.mp hc1)
        conv => whnf
        refine AV.of_eqv ?_
        conv => whnf
        refine And.intro (by (rw [un_bad hIl0.1 (ne_len (by assumption)) hIl0.2.2 (by assumption)]; rfl)) ?_
        conv => whnf
        refine And.intro (by (rw [un_bad hIl0.1 (ne_len (by assumption)) hIl0.2.2 (by assumption)])) ?_
        exact True.intro
      · replace hc1 := of_decide_eq_true (Bool.not_eq_false' _ |>.mp hc1)
        conv => whnf
        refine And.intro (fun hc2 => ?_) (fun hc2 => ?_)
        · replace hc2 := of_decide_eq_true hc2
          conv => whnf
          refine AV.of_eqv ?_
          conv => whnf
          refine And.intro (by (rw [un_long hIl0.1 (ne_len (by assumption)) hIl0.2.2 (by assumption) (by simp only [map_rows] at *; omega)]; rfl)) ?_
          conv => whnf
          refine And.intro (by (rw [un_long hIl0.1 (ne_len (by assumption)) hIl0.2.2 (by assumption) (by simp only [map_rows] at *; omega)])) ?_
          exact True.intro
        · replace hc2 := of_decide_eq_false hc2
          conv => whnf
          refine And.intro (by (simp [it]; done)) ?_
          refine And.intro (by (simp only [map_rows, maxLen_eq, List.length_cons, List.length_nil] at *; omega)) ?_
          refine And.intro (by (simp only [map_rows, maxLen_eq, List.length_cons, List.length_nil] at *; omega)) ?_
          conv => whnf
          refine ihl0 ((n - 1, (irdR s').2.1, out ++ [(irdR s').1])) _ ?_ ?_ (st_of ?_)
          · dsimp only
            (exact (un_step hIl0.1 (ne_len (by assumption)) hIl0.2.2 (by assumption) (by simp only [map_rows] at *; omega)).2)
          · dsimp only
            omega
          · conv => whnf
            refine And.intro (by with_reducible rfl) ?_
            conv => whnf
            refine And.intro (by (simp [it]; done)) ?_
            exact True.intro
    · replace hc0 := of_decide_eq_false hc0
      conv => whnf
      refine AV.of_eqv ?_
      conv => whnf
      refine And.intro (by (rw [un_end (nil_len (by assumption)) hIl0.2.2])) ?_
      conv => whnf
      refine And.intro (by (rw [un_end (nil_len (by assumption)) hIl0.2.2])) ?_
      exact True.intro
theorem runall_good (s : By) : Good Try.prog 102 [.str s] (.tuple [.sl .sh 4 ((un s).1.map it), .int .i64 (un s).2]) := by
  apply good_sh ak102 rfl rfl rfl
  conv => whnf
  refine loop_at (α := Nat × By × List It) [] (fun ⟨n, s', out⟩ => [(0, .str s'), (4, .sl .own 4 (out.map it))]) (fun ⟨n, s', out⟩ => []) (fun ⟨n, s', out⟩ => s'.length ≤ n ∧ out.length ≤ 48 ∧ unR n s' out = un s) (fun ⟨n, s', out⟩ => n) ((s.length, s, [])) (st_of ?_) ?_ (by rintro ⟨n, s', out⟩ _; rfl) ?_
  · conv => whnf
    refine And.intro (by with_reducible rfl) ?_
    conv => whnf
    refine And.intro (by decide) ?_
    exact True.intro
  · dsimp only
    (exact ⟨Nat.le_refl _, by simp, rfl⟩)
  · rintro ⟨n, s', out⟩ nextl0 hIl0 ihl0
    try dsimp only at hIl0
    conv => whnf
    refine And.intro (fun hc0 => ?_) (fun hc0 => ?_)
    · replace hc0 := of_decide_eq_false (Bool.not_eq_true' _ |>.mp hc0)
      conv => whnf
      refine ⟨_, riread_good _, ?_⟩
      conv => whnf
      refine And.intro (fun hc1 => ?_) (fun hc1 => ?_)
      · replace hc1 := of_decide_eq_false (Bool.not_eq_true' _ |>.mp hc1)
        conv => whnf
        refine AV.of_eqv ?_
        conv => whnf
        refine And.intro (by (rw [un_bad hIl0.1 (by assumption) hIl0.2.2 (by assumption)]; rfl)) ?_
        conv => whnf
        refine And.intro (by (rw [un_bad hIl0.1 (by assumption) hIl0.2.2 (by assumption)])) ?_
        exact True.intro
      · replace hc1 := of_decide_eq_true (Bool.not_eq_false' _ |>.mp hc1)
        conv => whnf
        refine And.intro (fun hc2 => ?_) (fun hc2 => ?_)
        · replace hc2 := of_decide_eq_true hc2
          conv => whnf
          refine AV.of_eqv ?_
          conv => whnf
          refine And.intro (by (rw [un_long hIl0.1 (by assumption) hIl0.2.2 (by assumption) (by simp only [map_rows] at *; omega)]; rfl)) ?_
          conv => whnf
          refine And.intro (by (rw [un_long hIl0.1 (by assumption) hIl0.2.2 (by assumption) (by simp only [map_rows] at *; omega)])) ?_
          exact True.intro
        · replace hc2 := of_decide_eq_false hc2
          conv => whnf
          refine And.intro (by (simp [it]; done)) ?_
          refine And.intro (by (simp only [map_rows, maxLen_eq, List.length_cons, List.length_nil] at *; omega)) ?_
          refine And.intro (by (simp only [map_rows, maxLen_eq, List.length_cons, List.length_nil] at *; omega)) ?_
          conv => whnf
          refine ihl0 ((n - 1, (irdR s').2.1, out ++ [(irdR s').1])) _ ?_ ?_ (st_of ?_)
          · dsimp only
            (exact (un_step hIl0.1 (by assumption) hIl0.2.2 (by assumption) (by simp only [map_rows] at *; omega)).2)
          · dsimp only
            (have := (un_step hIl0.1 (by assumption) hIl0.2.2 (by assumption) (by simp only [map_rows] at *; omega)).1; omega)
          · conv => whnf
            refine And.intro (by with_reducible rfl) ?_
            conv => whnf
            refine And.intro (by (simp [it]; done)) ?_
            exact True.intro
    · replace hc0 := of_decide_eq_true (Bool.not_eq_false' _ |>.mp hc0)
      conv => whnf
      refine AV.of_eqv ?_
      conv => whnf
      refine And.intro (by (rw [un_end (by assumption) hIl0.2.2])) ?_
      conv => whnf
      refine And.intro (by (rw [un_end (by assumption) hIl0.2.2])) ?_
      exact True.intro
end Go.Proofs.Ytkcdeefnkbbacaa

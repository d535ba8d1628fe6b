/- The law HelloSays: what it calls, and its contract. -/
import Derived.Test.YtkcdeefnkbbacaaW05
import Derived.Test.YtkcdeefnkbbacaaW06c
import Derived.Test.YtkcdeefnkbbacaaHelloBs
set_option maxRecDepth 100000
set_option linter.unusedSimpArgs false
set_option linter.unusedVariables false
namespace Go.Proofs.Ytkcdeefnkbbacaa
open Go.RowKit
set_option maxHeartbeats 4000000
abbrev eH (x a b c d : Int) : AV := .agg [.int .i64 x, .int .u32 a, .int .u32 b, .int .u32 c, .int .u32 d]
abbrev okH (x a b : Int) : Prop := 0 ≤ x ∧ x < 16 ∧ ¬ (a = 0 ∧ b = 0)
theorem none_good (a b : Int) : Good Try.prog 89 [.agg [.int .u32 a, .int .u32 b]] (.bool (decide (a = 0) && decide (b = 0))) := by
  apply good_at ak89 rfl rfl rfl
  conv => whnf
  refine AV.of_eqv ?_
  conv => whnf
  refine And.intro (by (simp; done)) ?_
  exact True.intro
theorem rnone_good (a b : Int) : Good Try.prog 91 [.agg [.int .u32 a, .int .u32 b]] (.bool (decide (a = 0) && decide (b = 0))) := by
  apply good_at ak91 rfl rfl rfl
  conv => whnf
  refine AV.of_eqv ?_
  conv => whnf
  refine And.intro (by (simp; done)) ?_
  exact True.intro
theorem hright_good (x a b c d : Int) : Good Try.prog 20 [eH x a b c d] (.bool (decide (okH x a b))) := by
  apply good_at ak20 rfl rfl rfl
  conv => whnf
  refine ⟨_, right3_good _, ?_⟩
  conv => whnf
  refine And.intro (fun hc0 => ?_) (fun hc0 => ?_)
  · replace hc0 := of_decide_eq_true hc0
    conv => whnf
    refine br_l rfl rfl ?_
    conv => whnf
    refine br_l rfl rfl ?_
    conv => whnf
    refine br_l rfl rfl ?_
    conv => whnf
    refine ⟨_, none_good _ _, ?_⟩
    conv => whnf
    refine br_l rfl rfl ?_
    conv => whnf
    refine br_l rfl rfl ?_
    conv => whnf
    refine AV.of_eqv ?_
    conv => whnf
    refine And.intro (by (by_cases ha : a = 0 <;> by_cases hb : b = 0 <;> simp_all [okH]; done)) ?_
    exact True.intro
  · replace hc0 := of_decide_eq_false hc0
    conv => whnf
    refine br_r rfl rfl ?_
    conv => whnf
    refine br_r rfl rfl ?_
    conv => whnf
    refine br_r rfl rfl ?_
    conv => whnf
    refine br_r rfl rfl ?_
    conv => whnf
    refine br_r rfl rfl ?_
    conv => whnf
    refine AV.of_eqv ?_
    conv => whnf
    refine And.intro (by exact (decide_eq_false (by omega)).symm) ?_
    exact True.intro
theorem rhright_good (x a b c d : Int) : Good Try.prog 21 [eH x a b c d] (.bool (decide (okH x a b))) := by
  apply good_at ak21 rfl rfl rfl
  conv => whnf
  refine ⟨_, rright3_good _, ?_⟩
  conv => whnf
  refine And.intro (fun hc0 => ?_) (fun hc0 => ?_)
  · replace hc0 := of_decide_eq_true hc0
    conv => whnf
    refine br_l rfl rfl ?_
    conv => whnf
    refine br_l rfl rfl ?_
    conv => whnf
    refine br_l rfl rfl ?_
    conv => whnf
    refine ⟨_, rnone_good _ _, ?_⟩
    conv => whnf
    refine br_l rfl rfl ?_
    conv => whnf
    refine br_l rfl rfl ?_
    conv => whnf
    refine AV.of_eqv ?_
    conv => whnf
    refine And.intro (by (by_cases ha : a = 0 <;> by_cases hb : b = 0 <;> simp_all [okH]; done)) ?_
    exact True.intro
  · replace hc0 := of_decide_eq_false hc0
    conv => whnf
    refine br_r rfl rfl ?_
    conv => whnf
    refine br_r rfl rfl ?_
    conv => whnf
    refine br_r rfl rfl ?_
    conv => whnf
    refine br_r rfl rfl ?_
    conv => whnf
    refine br_r rfl rfl ?_
    conv => whnf
    refine AV.of_eqv ?_
    conv => whnf
    refine And.intro (by exact (decide_eq_false (by omega)).symm) ?_
    exact True.intro
def hb (x a b c d : Int) : By := nb x 1 ++ pb a b c d
def hbR (x a b c d : Int) : By × Int := if okH x a b then (hb x a b c d, 0) else ([], 1)
theorem okH_nat (x : Int) (a b : Nat) : rightB x a b = decide (okH x a b) := by
  unfold rightB isNode okH
  by_cases ha : a = 0 <;> by_cases hb : b = 0 <;> by_cases hx : 0 ≤ x ∧ x < 16 <;> simp_all <;> omega
theorem rdv_agg5 {I : Cells} {w : World} {x a b c d : Int} {v : Value} (h : Rd I w (eH x a b c d) v) : v = .agg #[.int .i64 x, .int .u32 a, .int .u32 b, .int .u32 c, .int .u32 d] := by
  cases h with
  | agg cs vs hl h1 h =>
    match vs, hl with
    | [p, q, r, s, t], _ =>
      obtain rfl := rdv_int (h 0 _ _ rfl rfl)
      obtain rfl := rdv_int (h 1 _ _ rfl rfl)
      obtain rfl := rdv_int (h 2 _ _ rfl rfl)
      obtain rfl := rdv_int (h 3 _ _ rfl rfl)
      obtain rfl := rdv_int (h 4 _ _ rfl rfl)
      rfl
theorem hb_nat {x a b c d : Nat} (hx : x < 16) : helloB x a b c d = hb x a b c d := by
  unfold helloB hb nb pb
  simp only [Int.toNat_natCast]
  have : numB x 1 = [UInt8.ofNat x] := by
    show [UInt8.ofNat (shr8 x 0 % 256)] = _
    rw [shr8_zero, Nat.mod_eq_of_lt (by omega)]
  rw [this]; rfl
theorem hb_len (x a b c d : Int) : (hb x a b c d).length = 17 := by simp [hb, nb_len, pb_len]
theorem hbytes_good (x a b c d : Int) (ha : u32b a) (hb' : u32b b) (hc : u32b c) (hd : u32b d) : Good Try.prog 16 [eH x a b c d] (.tuple [.str (hbR x a b c d).1, .int .i64 (hbR x a b c d).2]) := by
  obtain ⟨a, rfl⟩ := Int.eq_ofNat_of_zero_le ha.1
  obtain ⟨b, rfl⟩ := Int.eq_ofNat_of_zero_le hb'.1
  obtain ⟨c, rfl⟩ := Int.eq_ofNat_of_zero_le hc.1
  obtain ⟨d, rfl⟩ := Int.eq_ofNat_of_zero_le hd.1
  unfold u32b at ha hb' hc hd
  by_cases h : okH x a b
  · obtain ⟨n, rfl⟩ := Int.eq_ofNat_of_zero_le h.1
    have e : hbR n a b c d = (helloB n a b c d, 0) := by unfold hbR; rw [if_pos h, hb_nat (by unfold okH at h; omega)]
    rw [e]
    refine .of_calls (u := .tuple #[.string (str (helloB n a b c d)), .int .i64 0]) (fun g w => res_tup2 (.str _ (by rw [hb_nat (by unfold okH at h; omega), hb_len]; unfold maxLen; omega)) (rd_int _ _ _ _) (by simp) (by simp)) fun w I vs hv => ?_
    obtain ⟨u, rfl, hu⟩ := args1 hv
    obtain rfl := rdv_agg5 hu
    exact hello_yes n a b c d (by omega) (by omega) (by omega) (by omega) (by rw [okH_nat]; exact decide_eq_true h) w
  · have e : hbR x a b c d = ([], 1) := by unfold hbR; rw [if_neg h]
    rw [e]
    refine .of_calls (u := .tuple #[.string (str []), .int .i64 1]) (fun g w => res_tup2 (.str _ (by simp [maxLen])) (rd_int _ _ _ _) (by simp) (by simp)) fun w I vs hv => ?_
    obtain ⟨u, rfl, hu⟩ := args1 hv
    obtain rfl := rdv_agg5 hu
    exact hello_no x a b c d (by rw [okH_nat]; exact decide_eq_false h) w
theorem hbR_yes {x a b c d : Int} (h : okH x a b) : hbR x a b c d = (hb x a b c d, 0) := by unfold hbR; rw [if_pos h]
theorem hbR_no {x a b c d : Int} (h : ¬ okH x a b) : hbR x a b c d = ([], 1) := by unfold hbR; rw [if_neg h]
theorem rhbytes_good (x a b c d : Int) (ha : u32b a) (hb' : u32b b) (hc : u32b c) (hd : u32b d) : Good Try.prog 17 [eH x a b c d] (.tuple [.str (hbR x a b c d).1, .int .i64 (hbR x a b c d).2]) := by
  apply good_at ak17 rfl rfl rfl
  conv => whnf
  refine ⟨_, rhright_good _ _ _ _ _, ?_⟩
  conv => whnf
  refine And.intro (fun hc0 => ?_) (fun hc0 => ?_)
  · replace hc0 := of_decide_eq_false (Bool.not_eq_true' _ |>.mp hc0)
    conv => whnf
    refine AV.of_eqv ?_
    conv => whnf
    refine And.intro (by (rw [hbR_no (by assumption)])) ?_
    conv => whnf
    refine And.intro (by (rw [hbR_no (by assumption)])) ?_
    exact True.intro
  · replace hc0 := of_decide_eq_true (Bool.not_eq_false' _ |>.mp hc0)
    conv => whnf
    refine And.intro (by exact rfl) ?_
    conv => whnf
    refine ⟨_, (rnum_good _ _ 1) ?_ ?_ ?_ ?_, ?_⟩
    · (simp only [wrap_u64]; omega)
    · (simp only [wrap_u64]; omega)
    · decide
    · decide
    · conv => whnf
      refine ⟨_, rebytes_good _ _ _ _ ?_ ?_ ?_ ?_, ?_⟩
      · assumption
      · assumption
      · assumption
      · assumption
      · conv => whnf
        refine And.intro (by (simp only [nb_len, pb_len, maxLen_eq]; omega)) ?_
        conv => whnf
        refine AV.of_eqv ?_
        conv => whnf
        refine And.intro (by (rw [hbR_yes (by assumption)]; unfold hb; rw [show IntKind.u64.wrap x = x by rw [wrap_u64]; omega])) ?_
        conv => whnf
        refine And.intro (by (rw [hbR_yes (by assumption)]; done)) ?_
        exact True.intro
/-- what Read answers -/
def hrd (s : By) : (Int × Int × Int × Int × Int) × Int :=
  if s.length < 17 then ((0, 0, 0, 0, 0), 2)
  else if okH ((valB 0 (s.take 1) : Nat) : Int) (q4 (s.drop 1) 0) (q4 (s.drop 1) 1) ∧ s.length = 17 then ((((valB 0 (s.take 1) : Nat) : Int), q4 (s.drop 1) 0, q4 (s.drop 1) 1, q4 (s.drop 1) 2, q4 (s.drop 1) 3), 0)
  else ((0, 0, 0, 0, 0), 3)
abbrev aH (r : (Int × Int × Int × Int × Int) × Int) : AV := .tuple [eH r.1.1 r.1.2.1 r.1.2.2.1 r.1.2.2.2.1 r.1.2.2.2.2, .int .i64 r.2]
theorem val1_b (s : By) : valB 0 (s.take 1) ≤ 255 := by
  have h := valB_lt 0 (s.take 1)
  have h1 : (s.take 1).length ≤ 1 := by simp; omega
  have h2 : 256 ^ (s.take 1).length ≤ 256 ^ 1 := Nat.pow_le_pow_right (by omega) h1
  omega
theorem w64 {n : Nat} (h : n ≤ 255) : IntKind.i64.wrap (n : Int) = n := by rw [wrap_i64]; omega
theorem take_gd {l : By} {k : Int} {n : Nat} {r : By} {e : Int} (h : takeOf l k = (n, r, e)) : Good Try.prog 82 [.str l, .int .i64 k] (.tuple [.int .u64 (n : Nat), .str r, .int .i64 e]) :=
  (take_good l k).eq (by rw [h])
theorem takeOf_ok {l : By} {k : Int} (c : Nat) (hk : k = c) (hc : c ≤ 8) (h : c ≤ l.length) : takeOf l k = (valB 0 (l.take c), l.drop c, 0) := by
  subst hk
  unfold takeOf
  rw [if_neg (by omega), if_neg (by omega), Int.toNat_natCast]
theorem take_ok' (l : By) (k : Int) (c : Nat) (hk : k = c) (hc : c ≤ 8) (h : c ≤ l.length) : Good Try.prog 82 [.str l, .int .i64 k] (.tuple [.int .u64 (valB 0 (l.take c) : Nat), .str (l.drop c), .int .i64 0]) :=
  take_gd (takeOf_ok c hk hc h)
theorem hright_w {x y a b c d : Int} (e : x = y) : Good Try.prog 20 [eH x a b c d] (.bool (decide (okH y a b))) := e ▸ hright_good x a b c d
theorem rhright_w {x y a b c d : Int} (e : x = y) : Good Try.prog 21 [eH x a b c d] (.bool (decide (okH y a b))) := e ▸ rhright_good x a b c d
theorem dl {s : By} (h : ¬ s.length < 17) : (s.drop 17 = [] ↔ s.length = 17) := by rw [List.drop_eq_nil_iff]; omega
theorem hread_good (s : By) : Good Try.prog 18 [.str s] (aH (hrd s)) := by
  by_cases hl : s.length < 17
  · rw [show hrd s = ((0, 0, 0, 0, 0), 2) by unfold hrd; rw [if_pos hl]]
    apply good_at ak18 rfl rfl rfl
    conv => whnf
    refine And.intro (fun hc0 => ?_) (fun hc0 => ?_)
    · replace hc0 := of_decide_eq_true hc0
      conv => whnf
      refine AV.of_eqv ?_
      conv => whnf
      refine And.intro (by with_reducible rfl) ?_
      conv => whnf
      refine And.intro (by with_reducible rfl) ?_
      conv => whnf
      refine And.intro (by with_reducible rfl) ?_
      conv => whnf
      refine And.intro (by with_reducible rfl) ?_
      conv => whnf
      refine And.intro (by with_reducible rfl) ?_
      conv => whnf
      refine And.intro (by with_reducible rfl) ?_
      exact True.intro
    · replace hc0 := of_decide_eq_false hc0
      (exfalso; omega)
  · have e1 := w64 (val1_b s)
    have e2 := dl hl
    have e3 : ((s.drop 1).drop 16) = s.drop 17 := by rw [List.drop_drop]
    by_cases ho : okH ((valB 0 (s.take 1) : Nat) : Int) (q4 (s.drop 1) 0) (q4 (s.drop 1) 1)
    · by_cases hs : s.length = 17
      · rw [show hrd s = ((((valB 0 (s.take 1) : Nat) : Int), q4 (s.drop 1) 0, q4 (s.drop 1) 1, q4 (s.drop 1) 2, q4 (s.drop 1) 3), 0) by unfold hrd; rw [if_neg hl, if_pos ⟨ho, hs⟩]]
        have e4 : (if (s.drop 1).drop 16 = [] then (0 : Int) else 3) = 0 := if_pos (by rw [e3]; exact e2.2 hs)
        apply good_at ak18 rfl rfl rfl
        conv => whnf
        refine And.intro (fun hc0 => ?_) (fun hc0 => ?_)
        · replace hc0 := of_decide_eq_true hc0
          (exfalso; omega)
        · replace hc0 := of_decide_eq_false hc0
          conv => whnf
          refine ⟨_, (take_ok' _ _ 1) ?_ ?_ ?_, ?_⟩
          · decide
          · decide
          · omega
          · conv => whnf
            refine br_r rfl rfl ?_
            conv => whnf
            refine ⟨_, eread_ok _ ?_, ?_⟩
            · (simp only [List.length_drop]; omega)
            · conv => whnf
              refine br_r rfl rfl ?_
              conv => whnf
              refine ⟨_, (hright_w e1), ?_⟩
              conv => whnf
              refine And.intro (fun hc1 => ?_) (fun hc1 => ?_)
              · replace hc1 := of_decide_eq_true (Bool.not_eq_false' _ |>.mp hc1)
                conv => whnf
                refine br_l rfl rfl ?_
                conv => whnf
                refine ⟨_, rest_good _, ?_⟩
                conv => whnf
                refine br_l rfl rfl ?_
                conv => whnf
                refine br_r rfl rfl ?_
                conv => whnf
                refine And.intro (fun hc2 => ?_) (fun hc2 => ?_)
                · replace hc2 := of_decide_eq_false (Bool.not_eq_true' _ |>.mp hc2)
                  contradiction
                · replace hc2 := of_decide_eq_true (Bool.not_eq_false' _ |>.mp hc2)
                  conv => whnf
                  refine AV.of_eqv ?_
                  conv => whnf
                  refine And.intro (by assumption) ?_
                  conv => whnf
                  refine And.intro (by with_reducible rfl) ?_
                  conv => whnf
                  refine And.intro (by with_reducible rfl) ?_
                  conv => whnf
                  refine And.intro (by with_reducible rfl) ?_
                  conv => whnf
                  refine And.intro (by with_reducible rfl) ?_
                  conv => whnf
                  refine And.intro (by with_reducible rfl) ?_
                  exact True.intro
              · replace hc1 := of_decide_eq_false (Bool.not_eq_true' _ |>.mp hc1)
                contradiction
      · rw [show hrd s = ((0, 0, 0, 0, 0), 3) by unfold hrd; rw [if_neg hl, if_neg (fun h => hs h.2)]]
        have e4 : ¬ (if (s.drop 1).drop 16 = [] then (0 : Int) else 3) = 0 := by rw [if_neg (by rw [e3]; exact fun h => hs (e2.1 h))]; omega
        apply good_at ak18 rfl rfl rfl
        conv => whnf
        refine And.intro (fun hc0 => ?_) (fun hc0 => ?_)
        · replace hc0 := of_decide_eq_true hc0
          (exfalso; omega)
        · replace hc0 := of_decide_eq_false hc0
          conv => whnf
          refine ⟨_, (take_ok' _ _ 1) ?_ ?_ ?_, ?_⟩
          · decide
          · decide
          · omega
          · conv => whnf
            refine br_r rfl rfl ?_
            conv => whnf
            refine ⟨_, eread_ok _ ?_, ?_⟩
            · (simp only [List.length_drop]; omega)
            · conv => whnf
              refine br_r rfl rfl ?_
              conv => whnf
              refine ⟨_, (hright_w e1), ?_⟩
              conv => whnf
              refine And.intro (fun hc1 => ?_) (fun hc1 => ?_)
              · replace hc1 := of_decide_eq_true (Bool.not_eq_false' _ |>.mp hc1)
                conv => whnf
                refine br_l rfl rfl ?_
                conv => whnf
                refine ⟨_, rest_good _, ?_⟩
                conv => whnf
                refine br_l rfl rfl ?_
                conv => whnf
                refine br_r rfl rfl ?_
                conv => whnf
                refine And.intro (fun hc2 => ?_) (fun hc2 => ?_)
                · replace hc2 := of_decide_eq_false (Bool.not_eq_true' _ |>.mp hc2)
                  conv => whnf
                  refine AV.of_eqv ?_
                  conv => whnf
                  refine And.intro (by with_reducible rfl) ?_
                  conv => whnf
                  refine And.intro (by with_reducible rfl) ?_
                  conv => whnf
                  refine And.intro (by with_reducible rfl) ?_
                  conv => whnf
                  refine And.intro (by with_reducible rfl) ?_
                  conv => whnf
                  refine And.intro (by with_reducible rfl) ?_
                  conv => whnf
                  refine And.intro (by with_reducible rfl) ?_
                  exact True.intro
                · replace hc2 := of_decide_eq_true (Bool.not_eq_false' _ |>.mp hc2)
                  contradiction
              · replace hc1 := of_decide_eq_false (Bool.not_eq_true' _ |>.mp hc1)
                contradiction
    · rw [show hrd s = ((0, 0, 0, 0, 0), 3) by unfold hrd; rw [if_neg hl, if_neg (fun h => ho h.1)]]
      apply good_at ak18 rfl rfl rfl
      conv => whnf
      refine And.intro (fun hc0 => ?_) (fun hc0 => ?_)
      · replace hc0 := of_decide_eq_true hc0
        (exfalso; omega)
      · replace hc0 := of_decide_eq_false hc0
        conv => whnf
        refine ⟨_, (take_ok' _ _ 1) ?_ ?_ ?_, ?_⟩
        · decide
        · decide
        · omega
        · conv => whnf
          refine br_r rfl rfl ?_
          conv => whnf
          refine ⟨_, eread_ok _ ?_, ?_⟩
          · (simp only [List.length_drop]; omega)
          · conv => whnf
            refine br_r rfl rfl ?_
            conv => whnf
            refine ⟨_, (hright_w e1), ?_⟩
            conv => whnf
            refine And.intro (fun hc1 => ?_) (fun hc1 => ?_)
            · replace hc1 := of_decide_eq_true (Bool.not_eq_false' _ |>.mp hc1)
              contradiction
            · replace hc1 := of_decide_eq_false (Bool.not_eq_true' _ |>.mp hc1)
              conv => whnf
              refine br_r rfl rfl ?_
              conv => whnf
              refine br_r rfl rfl ?_
              conv => whnf
              refine br_l rfl rfl ?_
              conv => whnf
              refine br_l rfl rfl ?_
              conv => whnf
              refine AV.of_eqv ?_
              conv => whnf
              refine And.intro (by with_reducible rfl) ?_
              conv => whnf
              refine And.intro (by with_reducible rfl) ?_
              conv => whnf
              refine And.intro (by with_reducible rfl) ?_
              conv => whnf
              refine And.intro (by with_reducible rfl) ?_
              conv => whnf
              refine And.intro (by with_reducible rfl) ?_
              conv => whnf
              refine And.intro (by with_reducible rfl) ?_
              exact True.intro
theorem rhread_good (s : By) : Good Try.prog 19 [.str s] (aH (hrd s)) := by
  by_cases h0 : s.length < 1
  · rw [show hrd s = ((0, 0, 0, 0, 0), 2) by unfold hrd; rw [if_pos (by omega)]]
    apply good_at ak19 rfl rfl rfl
    conv => whnf
    refine ⟨_, (rtake_short _ _ 1) ?_ ?_ ?_, ?_⟩
    · decide
    · decide
    · assumption
    · conv => whnf
      refine br_l rfl rfl ?_
      conv => whnf
      refine AV.of_eqv ?_
      conv => whnf
      refine And.intro (by with_reducible rfl) ?_
      conv => whnf
      refine And.intro (by with_reducible rfl) ?_
      conv => whnf
      refine And.intro (by with_reducible rfl) ?_
      conv => whnf
      refine And.intro (by with_reducible rfl) ?_
      conv => whnf
      refine And.intro (by with_reducible rfl) ?_
      conv => whnf
      refine And.intro (by with_reducible rfl) ?_
      exact True.intro
  by_cases hl : s.length < 17
  · rw [show hrd s = ((0, 0, 0, 0, 0), 2) by unfold hrd; rw [if_pos hl]]
    apply good_at ak19 rfl rfl rfl
    conv => whnf
    refine ⟨_, (rtake_ok _ _ 1) ?_ ?_ ?_, ?_⟩
    · decide
    · decide
    · omega
    · conv => whnf
      refine br_r rfl rfl ?_
      conv => whnf
      refine ⟨_, reread_short _ ?_, ?_⟩
      · (simp only [List.length_drop]; omega)
      · conv => whnf
        refine br_l rfl rfl ?_
        conv => whnf
        refine AV.of_eqv ?_
        conv => whnf
        refine And.intro (by with_reducible rfl) ?_
        conv => whnf
        refine And.intro (by with_reducible rfl) ?_
        conv => whnf
        refine And.intro (by with_reducible rfl) ?_
        conv => whnf
        refine And.intro (by with_reducible rfl) ?_
        conv => whnf
        refine And.intro (by with_reducible rfl) ?_
        conv => whnf
        refine And.intro (by with_reducible rfl) ?_
        exact True.intro
  · have e1 := w64 (val1_b s)
    have e2 := dl hl
    have e3 : ((s.drop 1).drop 16) = s.drop 17 := by rw [List.drop_drop]
    by_cases ho : okH ((valB 0 (s.take 1) : Nat) : Int) (q4 (s.drop 1) 0) (q4 (s.drop 1) 1)
    · by_cases hs : s.length = 17
      · rw [show hrd s = ((((valB 0 (s.take 1) : Nat) : Int), q4 (s.drop 1) 0, q4 (s.drop 1) 1, q4 (s.drop 1) 2, q4 (s.drop 1) 3), 0) by unfold hrd; rw [if_neg hl, if_pos ⟨ho, hs⟩]]
        have e4 : (if (s.drop 1).drop 16 = [] then (0 : Int) else 3) = 0 := if_pos (by rw [e3]; exact e2.2 hs)
        apply good_at ak19 rfl rfl rfl
        conv => whnf
        refine ⟨_, (rtake_ok _ _ 1) ?_ ?_ ?_, ?_⟩
        · decide
        · decide
        · omega
        · conv => whnf
          refine br_r rfl rfl ?_
          conv => whnf
          refine ⟨_, reread_ok _ ?_, ?_⟩
          · (simp only [List.length_drop]; omega)
          · conv => whnf
            refine br_r rfl rfl ?_
            conv => whnf
            refine ⟨_, (rhright_w e1), ?_⟩
            conv => whnf
            refine And.intro (fun hc0 => ?_) (fun hc0 => ?_)
            · replace hc0 := of_decide_eq_true (Bool.not_eq_false' _ |>.mp hc0)
              conv => whnf
              refine br_l rfl rfl ?_
              conv => whnf
              refine ⟨_, rrest_good _, ?_⟩
              conv => whnf
              refine br_l rfl rfl ?_
              conv => whnf
              refine br_r rfl rfl ?_
              conv => whnf
              refine And.intro (fun hc1 => ?_) (fun hc1 => ?_)
              · replace hc1 := of_decide_eq_false (Bool.not_eq_true' _ |>.mp hc1)
                contradiction
              · replace hc1 := of_decide_eq_true (Bool.not_eq_false' _ |>.mp hc1)
                conv => whnf
                refine AV.of_eqv ?_
                conv => whnf
                refine And.intro (by assumption) ?_
                conv => whnf
                refine And.intro (by with_reducible rfl) ?_
                conv => whnf
                refine And.intro (by with_reducible rfl) ?_
                conv => whnf
                refine And.intro (by with_reducible rfl) ?_
                conv => whnf
                refine And.intro (by with_reducible rfl) ?_
                conv => whnf
                refine And.intro (by with_reducible rfl) ?_
                exact True.intro
            · replace hc0 := of_decide_eq_false (Bool.not_eq_true' _ |>.mp hc0)
              contradiction
      · rw [show hrd s = ((0, 0, 0, 0, 0), 3) by unfold hrd; rw [if_neg hl, if_neg (fun h => hs h.2)]]
        have e4 : ¬ (if (s.drop 1).drop 16 = [] then (0 : Int) else 3) = 0 := by rw [if_neg (by rw [e3]; exact fun h => hs (e2.1 h))]; omega
        apply good_at ak19 rfl rfl rfl
        conv => whnf
        refine ⟨_, (rtake_ok _ _ 1) ?_ ?_ ?_, ?_⟩
        · decide
        · decide
        · omega
        · conv => whnf
          refine br_r rfl rfl ?_
          conv => whnf
          refine ⟨_, reread_ok _ ?_, ?_⟩
          · (simp only [List.length_drop]; omega)
          · conv => whnf
            refine br_r rfl rfl ?_
            conv => whnf
            refine ⟨_, (rhright_w e1), ?_⟩
            conv => whnf
            refine And.intro (fun hc0 => ?_) (fun hc0 => ?_)
            · replace hc0 := of_decide_eq_true (Bool.not_eq_false' _ |>.mp hc0)
              conv => whnf
              refine br_l rfl rfl ?_
              conv => whnf
              refine ⟨_, rrest_good _, ?_⟩
              conv => whnf
              refine br_l rfl rfl ?_
              conv => whnf
              refine br_r rfl rfl ?_
              conv => whnf
              refine And.intro (fun hc1 => ?_) (fun hc1 => ?_)
              · replace hc1 := of_decide_eq_false (Bool.not_eq_true' _ |>.mp hc1)
                conv => whnf
                refine AV.of_eqv ?_
                conv => whnf
                refine And.intro (by with_reducible rfl) ?_
                conv => whnf
                refine And.intro (by with_reducible rfl) ?_
                conv => whnf
                refine And.intro (by with_reducible rfl) ?_
                conv => whnf
                refine And.intro (by with_reducible rfl) ?_
                conv => whnf
                refine And.intro (by with_reducible rfl) ?_
                conv => whnf
                refine And.intro (by with_reducible rfl) ?_
                exact True.intro
              · replace hc1 := of_decide_eq_true (Bool.not_eq_false' _ |>.mp hc1)
                contradiction
            · replace hc0 := of_decide_eq_false (Bool.not_eq_true' _ |>.mp hc0)
              contradiction
    · rw [show hrd s = ((0, 0, 0, 0, 0), 3) by unfold hrd; rw [if_neg hl, if_neg (fun h => ho h.1)]]
      apply good_at ak19 rfl rfl rfl
      conv => whnf
      refine ⟨_, (rtake_ok _ _ 1) ?_ ?_ ?_, ?_⟩
      · decide
      · decide
      · omega
      · conv => whnf
        refine br_r rfl rfl ?_
        conv => whnf
        refine ⟨_, reread_ok _ ?_, ?_⟩
        · (simp only [List.length_drop]; omega)
        · conv => whnf
          refine br_r rfl rfl ?_
          conv => whnf
          refine ⟨_, (rhright_w e1), ?_⟩
          conv => whnf
          refine And.intro (fun hc0 => ?_) (fun hc0 => ?_)
          · replace hc0 := of_decide_eq_true (Bool.not_eq_false' _ |>.mp hc0)
            contradiction
          · replace hc0 := of_decide_eq_false (Bool.not_eq_true' _ |>.mp hc0)
            conv => whnf
            refine br_r rfl rfl ?_
            conv => whnf
            refine br_r rfl rfl ?_
            conv => whnf
            refine br_l rfl rfl ?_
            conv => whnf
            refine br_l rfl rfl ?_
            conv => whnf
            refine AV.of_eqv ?_
            conv => whnf
            refine And.intro (by with_reducible rfl) ?_
            conv => whnf
            refine And.intro (by with_reducible rfl) ?_
            conv => whnf
            refine And.intro (by with_reducible rfl) ?_
            conv => whnf
            refine And.intro (by with_reducible rfl) ?_
            conv => whnf
            refine And.intro (by with_reducible rfl) ?_
            conv => whnf
            refine And.intro (by with_reducible rfl) ?_
            exact True.intro
abbrev bS : By := [3, 0, 0, 0, 1, 0, 0, 0, 2, 0, 0, 0, 0, 0, 0, 0, 0]
theorem some_good : Good Try.prog 78 [] (eH 3 1 2 0 0) := by
  apply good_at ak78 rfl rfl rfl
  conv => whnf
  refine AV.of_eqv ?_
  conv => whnf
  refine And.intro (by with_reducible rfl) ?_
  conv => whnf
  refine And.intro (by with_reducible rfl) ?_
  conv => whnf
  refine And.intro (by with_reducible rfl) ?_
  conv => whnf
  refine And.intro (by with_reducible rfl) ?_
  conv => whnf
  refine And.intro (by with_reducible rfl) ?_
  exact True.intro
theorem c_b : Good Try.prog 16 [eH 3 1 2 0 0] (.tuple [.str bS, .int .i64 0]) :=
  (hbytes_good 3 1 2 0 0 (by decide) (by decide) (by decide) (by decide)).eq (by rw [hbR_yes (by decide)]; rfl)
theorem c_b16 : Good Try.prog 16 [eH 16 1 2 0 0] (.tuple [.str [], .int .i64 1]) :=
  (hbytes_good 16 1 2 0 0 (by decide) (by decide) (by decide) (by decide)).eq (by rw [hbR_no (by decide)])
theorem c_r : Good Try.prog 18 [.str bS] (.tuple [eH 3 1 2 0 0, .int .i64 0]) :=
  (hread_good bS).eq (by rw [show hrd bS = ((3, 1, 2, 0, 0), 0) by decide])
theorem c_rx : Good Try.prog 18 [.str (bS ++ [120])] (.tuple [eH 0 0 0 0 0, .int .i64 3]) :=
  (hread_good (bS ++ [120])).eq (by rw [show hrd (bS ++ [120]) = ((0, 0, 0, 0, 0), 3) by decide])
theorem c_ok : Good Try.prog 20 [eH 3 1 2 0 0] (.bool true) := (hright_good 3 1 2 0 0).eq (by rw [decide_eq_true (by decide)])
theorem c_no : Good Try.prog 20 [eH 0 0 0 0 0] (.bool false) := (hright_good 0 0 0 0 0).eq (by rw [decide_eq_false (by decide)])
theorem awake6_good : Good Try.prog 15 [] (.bool true) := by
  apply good_at ak15 rfl rfl rfl
  conv => whnf
  refine ⟨_, some_good, ?_⟩
  conv => whnf
  refine ⟨_, c_b, ?_⟩
  conv => whnf
  refine ⟨_, c_r, ?_⟩
  conv => whnf
  refine And.intro (by decide) ?_
  conv => whnf
  refine ⟨_, c_rx, ?_⟩
  conv => whnf
  refine ⟨_, some_good, ?_⟩
  conv => whnf
  refine ⟨_, c_b16, ?_⟩
  conv => whnf
  refine And.intro (by decide) ?_
  conv => whnf
  refine br_l rfl rfl ?_
  conv => whnf
  refine br_l rfl rfl ?_
  conv => whnf
  refine br_l rfl rfl ?_
  conv => whnf
  refine br_l rfl rfl ?_
  conv => whnf
  refine br_l rfl rfl ?_
  conv => whnf
  refine br_l rfl rfl ?_
  conv => whnf
  refine br_l rfl rfl ?_
  conv => whnf
  refine br_l rfl rfl ?_
  conv => whnf
  refine br_l rfl rfl ?_
  conv => whnf
  refine ⟨_, some_good, ?_⟩
  conv => whnf
  refine br_l rfl rfl ?_
  conv => whnf
  refine br_l rfl rfl ?_
  conv => whnf
  refine br_l rfl rfl ?_
  conv => whnf
  refine br_l rfl rfl ?_
  conv => whnf
  refine br_l rfl rfl ?_
  conv => whnf
  refine br_l rfl rfl ?_
  conv => whnf
  refine br_l rfl rfl ?_
  conv => whnf
  refine br_l rfl rfl ?_
  conv => whnf
  refine br_l rfl rfl ?_
  conv => whnf
  refine br_l rfl rfl ?_
  conv => whnf
  refine ⟨_, c_ok, ?_⟩
  conv => whnf
  refine br_l rfl rfl ?_
  conv => whnf
  refine br_l rfl rfl ?_
  conv => whnf
  refine br_l rfl rfl ?_
  conv => whnf
  refine ⟨_, c_no, ?_⟩
  conv => whnf
  refine br_l rfl rfl ?_
  conv => whnf
  refine br_l rfl rfl ?_
  conv => whnf
  refine AV.of_eqv ?_
  conv => whnf
  refine And.intro (by decide) ?_
  exact True.intro
theorem helloSays_good (x a b c d : Int) (s : By) (ha : u32b a) (hb' : u32b b) (hc : u32b c) (hd : u32b d) : Good Try.prog 3 [eH x a b c d, .str s] (.bool true) := by
  apply good_at ak3 rfl rfl rfl
  conv => whnf
  refine And.intro (fun hc0 => ?_) (fun hc0 => ?_)
  · replace hc0 := of_decide_eq_true hc0
    conv => whnf
    refine ⟨_, awake6_good, ?_⟩
    conv => whnf
    refine AV.of_eqv ?_
    conv => whnf
    refine And.intro (by with_reducible rfl) ?_
    exact True.intro
  · replace hc0 := of_decide_eq_false hc0
    conv => whnf
    refine ⟨_, hbytes_good _ _ _ _ _ ?_ ?_ ?_ ?_, ?_⟩
    · assumption
    · assumption
    · assumption
    · assumption
    · conv => whnf
      refine ⟨_, rhbytes_good _ _ _ _ _ ?_ ?_ ?_ ?_, ?_⟩
      · assumption
      · assumption
      · assumption
      · assumption
      · conv => whnf
        refine ⟨_, hread_good _, ?_⟩
        conv => whnf
        refine ⟨_, rhread_good _, ?_⟩
        conv => whnf
        refine And.intro (by exact rfl) ?_
        conv => whnf
        refine ⟨_, hright_good _ _ _ _ _, ?_⟩
        conv => whnf
        refine ⟨_, rhright_good _ _ _ _ _, ?_⟩
        conv => whnf
        refine And.intro (fun hc1 => ?_) (fun hc1 => ?_)
        · replace hc1 := of_decide_eq_true hc1
          conv => whnf
          refine br_l rfl rfl ?_
          conv => whnf
          refine br_l rfl rfl ?_
          conv => whnf
          refine br_l rfl rfl ?_
          conv => whnf
          refine And.intro (fun hc2 => ?_) (fun hc2 => ?_)
          · replace hc2 := of_decide_eq_true hc2
            conv => whnf
            refine br_l rfl rfl ?_
            conv => whnf
            refine br_l rfl rfl ?_
            conv => whnf
            refine br_l rfl rfl ?_
            conv => whnf
            refine And.intro (fun hc3 => ?_) (fun hc3 => ?_)
            · replace hc3 := of_decide_eq_true hc3
              conv => whnf
              refine br_l rfl rfl ?_
              conv => whnf
              refine br_l rfl rfl ?_
              conv => whnf
              refine br_l rfl rfl ?_
              conv => whnf
              refine And.intro (fun hc4 => ?_) (fun hc4 => ?_)
              · simp only [Bool.not_eq_true', Bool.not_eq_false', Bool.and_eq_true, Bool.and_eq_false_imp, Bool.or_eq_true, Bool.or_eq_false_iff, Bool.and_true, Bool.true_and, Bool.not_true, Bool.not_false, decide_eq_true_eq, decide_eq_false_iff_not, Bool.decide_and] at hc4
                conv => whnf
                refine br_l rfl rfl ?_
                conv => whnf
                refine br_l rfl rfl ?_
                conv => whnf
                refine br_l rfl rfl ?_
                conv => whnf
                refine And.intro (fun hc5 => ?_) (fun hc5 => ?_)
                · replace hc5 := of_decide_eq_true hc5
                  conv => whnf
                  refine ⟨_, awake6_good, ?_⟩
                  conv => whnf
                  refine br_l rfl rfl ?_
                  conv => whnf
                  refine AV.of_eqv ?_
                  conv => whnf
                  refine And.intro (by with_reducible rfl) ?_
                  exact True.intro
                · replace hc5 := of_decide_eq_false hc5
                  contradiction
              · simp only [Bool.not_eq_true', Bool.not_eq_false', Bool.and_eq_true, Bool.and_eq_false_imp, Bool.or_eq_true, Bool.or_eq_false_iff, Bool.and_true, Bool.true_and, Bool.not_true, Bool.not_false, decide_eq_true_eq, decide_eq_false_iff_not, Bool.decide_and] at hc4
                contradiction
            · replace hc3 := of_decide_eq_false hc3
              contradiction
          · replace hc2 := of_decide_eq_false hc2
            contradiction
        · replace hc1 := of_decide_eq_false hc1
          contradiction
end Go.Proofs.Ytkcdeefnkbbacaa

/- The law ParcelBack. -/
import Derived.Test.YtkcdeefnkbbacaaW10
set_option maxRecDepth 100000
set_option linter.unusedSimpArgs false
set_option linter.unusedVariables false
namespace Go.Proofs.Ytkcdeefnkbbacaa
open Go.RowKit
set_option maxHeartbeats 4000000
theorem unblob_nb {B : By} (h : B.length ≤ 64) : unblobOf (nb B.length 1 ++ B) = (B, [], 0) := by
  have e : nb B.length 1 = [UInt8.ofNat B.length] := by
    show [UInt8.ofNat (shr8 B.length 0 % 256)] = _
    rw [shr8_zero, Nat.mod_eq_of_lt (by omega)]
  rw [e]
  have e2 : (UInt8.ofNat B.length).toNat = B.length := by
    rw [UInt8.toNat_ofNat']; omega
  show (if B.length < (UInt8.ofNat B.length).toNat then _ else (B.take (UInt8.ofNat B.length).toNat, B.drop (UInt8.ofNat B.length).toNat, (0 : Int))) = _
  rw [e2, if_neg (by omega), List.take_length, List.drop_length]
theorem nb_unblob {l : By} (h : (unblobOf l).2.2 = 0) (h2 : (unblobOf l).2.1 = []) : nb (unblobOf l).1.length 1 ++ (unblobOf l).1 = l := by
  match l, h, h2 with
  | [], h, _ => exact absurd h (by decide)
  | x :: r, h, h2 =>
    by_cases hr : r.length < x.toNat
    · have e : unblobOf (x :: r) = ([], [], 2) := if_pos hr
      rw [e] at h; exact absurd h (by decide)
    · have e : unblobOf (x :: r) = (r.take x.toNat, r.drop x.toNat, 0) := if_neg hr
      rw [e] at h2 ⊢
      have hl : r.length = x.toNat := by
        have := List.drop_eq_nil_iff.1 h2
        omega
      have e3 : r.take x.toNat = r := List.take_of_length_le (by omega)
      show nb (r.take x.toNat).length 1 ++ r.take x.toNat = x :: r
      rw [e3, hl]
      have hx := x.toNat_lt
      have e4 : nb (x.toNat : Nat) 1 = [x] := by
        show [UInt8.ofNat (shr8 x.toNat 0 % 256)] = _
        rw [shr8_zero, Nat.mod_eq_of_lt (by omega), UInt8.ofNat_toNat]
      rw [e4]; rfl
theorem pk_back {f a b c d s t x : Int} {B : By} (h : okP f s t x B) (ha : u32b a) (hb : u32b b) (hc : u32b c) (hd : u32b d) : prd (pkb f a b c d s t x B) = ((f, a, b, c, d, s, t, x, B), 0) := by
  have hl := pkb_len f a b c d s t x B
  have e : pkb f a b c d s t x B = nb f 1 ++ ((pb a b c d ++ (nb (16 * s + t) 1 ++ nb x 1)) ++ (nb B.length 1 ++ B)) := by simp [pkb, List.append_assoc]
  have l18 : (pb a b c d ++ (nb (16 * s + t) 1 ++ nb x 1)).length = 18 := by simp [pb_len, nb_len]
  have e1 : (pkb f a b c d s t x B).take 1 = nb f 1 := by rw [e]; exact takeA (nb_len _ _)
  have d1 : (pkb f a b c d s t x B).drop 1 = (pb a b c d ++ (nb (16 * s + t) 1 ++ nb x 1)) ++ (nb B.length 1 ++ B) := by rw [e]; exact dropA (nb_len _ _)
  have d19 : (pkb f a b c d s t x B).drop 19 = nb B.length 1 ++ B := by
    rw [show (19 : Nat) = 1 + 18 from rfl, ← List.drop_drop, d1]; exact dropA l18
  have t19 : List.drop (Int.toNat 1) (List.take (Int.toNat 19) (pkb f a b c d s t x B)) = pb a b c d ++ (nb (16 * s + t) 1 ++ nb x 1) := by
    show List.drop 1 (List.take 19 (pkb f a b c d s t x B)) = _
    rw [← List.take_drop (i := 18) (j := 1), d1]; exact takeA l18
  have er : rS (pkb f a b c d s t x B) = nb (16 * s + t) 1 ++ nb x 1 := by show List.drop 16 _ = _; rw [t19]; exact dropA (pb_len _ _ _ _)
  obtain ⟨q0, q1, q2, q3⟩ := q4_pb (r := nb (16 * s + t) 1 ++ nb x 1) ha hb hc hd
  have v1 : fS (pkb f a b c d s t x B) = f := by unfold fS; rw [e1]; exact vnb h.1 (by rw [pw1]; omega)
  have v2 : eS (pkb f a b c d s t x B) = 16 * s + t := by unfold eS; rw [er, takeA (nb_len _ _)]; exact vnb (by omega) (by rw [pw1]; omega)
  have v3 : tS (pkb f a b c d s t x B) = x := by unfold tS; rw [er, dropA (nb_len _ _), List.take_of_length_le (by rw [nb_len]; omega)]; exact vnb (by omega) (by rw [pw1]; omega)
  have v4 : uS (pkb f a b c d s t x B) = (B, [], 0) := by unfold uS; rw [d19]; exact unblob_nb h.2.2.2.2.2.2.2.2
  have v5 : (16 * s + t) / 16 = s := by omega
  have v6 : (16 * s + t) % 16 = t := by omega
  unfold prd
  have hu : (uS (pkb f a b c d s t x B)).2.2 = 0 := by rw [v4]
  have ho : okS (pkb f a b c d s t x B) := ⟨by rw [v4], by rw [v4, v1, v2, v3, v5, v6]; exact h⟩
  rw [if_neg (by omega), if_pos hu, if_pos ho]
  unfold prdV qS
  rw [t19, q0, q1, q2, q3, v1, v2, v3, v4, v5, v6]
theorem pk_forth {s : By} (h : (prd s).2 = 0) : pkR (prd s).1.1 (prd s).1.2.1 (prd s).1.2.2.1 (prd s).1.2.2.2.1 (prd s).1.2.2.2.2.1 (prd s).1.2.2.2.2.2.1 (prd s).1.2.2.2.2.2.2.1 (prd s).1.2.2.2.2.2.2.2.1 (prd s).1.2.2.2.2.2.2.2.2 = (s, 0) := by
  unfold prd at h ⊢
  by_cases hl : s.length < 20
  · rw [if_pos hl] at h; exact absurd h (by decide)
  rw [if_neg hl] at h ⊢
  by_cases hu : (uS s).2.2 = 0
  · rw [if_pos hu] at h ⊢
    by_cases ho : okS s
    · rw [if_pos ho]
      show pkR (fS s) (qS s 0) (qS s 1) (qS s 2) (qS s 3) (eS s / 16) (eS s % 16) (tS s) (uS s).1 = (s, 0)
      rw [pkR_yes ho.2]
      have lr := len_r hl
      have ls := len_s hl
      have e1 : nb (fS s) 1 = s.take 1 := nbv s 1 (by omega)
      have e2 : pb (qS s 0) (qS s 1) (qS s 2) (qS s 3) = (List.drop 1 (List.take 19 s)).take 16 := pb_q4 _ (by rw [ls]; omega)
      have e3 : nb (16 * (eS s / 16) + eS s % 16) 1 = (rS s).take 1 := by
        rw [show 16 * (eS s / 16) + eS s % 16 = eS s by omega]
        exact nbv (rS s) 1 (by omega)
      have e4 : nb (tS s) 1 = (rS s).drop 1 := by
        have := nbv ((rS s).drop 1) 1 (by simp only [List.length_drop] at *; omega)
        rw [List.take_of_length_le (by simp only [List.length_drop] at *; omega)] at this
        unfold tS
        rw [List.take_of_length_le (by simp only [List.length_drop] at *; omega)]
        exact this
      have e5 : nb (uS s).1.length 1 ++ (uS s).1 = s.drop 19 := nb_unblob hu ho.1
      have e : pkb (fS s) (qS s 0) (qS s 1) (qS s 2) (qS s 3) (eS s / 16) (eS s % 16) (tS s) (uS s).1 = s := by
        unfold pkb
        rw [e1, e2, e3, e4, e5, List.append_assoc (s.take 1 ++ _), List.take_append_drop, List.append_assoc (s.take 1)]
        show s.take 1 ++ ((List.drop 1 (List.take 19 s)).take 16 ++ List.drop 16 (List.drop 1 (List.take 19 s))) ++ s.drop 19 = s
        rw [List.take_append_drop]
        have : s.take 1 = (s.take 19).take 1 := by rw [List.take_take]; rfl
        rw [this, List.take_append_drop, List.take_append_drop]
      rw [e]
    · rw [if_neg ho] at h; exact absurd h (by decide)
  · rw [if_neg hu] at h; exact absurd h hu
theorem u0P : u32b 0 := by decide
theorem prd_u (s : By) : u32b (prd s).1.2.1 ∧ u32b (prd s).1.2.2.1 ∧ u32b (prd s).1.2.2.2.1 ∧ u32b (prd s).1.2.2.2.2.1 := by
  unfold prd
  split
  · exact ⟨u0P, u0P, u0P, u0P⟩
  split
  · split
    · exact ⟨q4_b _ _, q4_b _ _, q4_b _ _, q4_b _ _⟩
    · exact ⟨u0P, u0P, u0P, u0P⟩
  · exact ⟨u0P, u0P, u0P, u0P⟩
theorem pfwd_good {s : By} (h : (prd s).2 = 0) : Good Try.prog 47 [aP (prd s).1] (.tuple [.str s, .int .i64 0]) := by
  obtain ⟨a, b, c, d⟩ := prd_u s
  exact (pbytes_good _ _ _ _ _ _ _ _ _ a b c d).eq (by rw [pk_forth h])
theorem pb_no {f a b c d s t x : Int} {B : By} (h : ¬ okP f s t x B) (ha : u32b a) (hb : u32b b) (hc : u32b c) (hd : u32b d) : Good Try.prog 47 [eQ f a b c d s t x B] (.tuple [.str [], .int .i64 1]) :=
  (pbytes_good _ _ _ _ _ _ _ _ _ ha hb hc hd).eq (by rw [pkR_no h])
theorem pb_yes {f a b c d s t x : Int} {B : By} (h : okP f s t x B) (ha : u32b a) (hb : u32b b) (hc : u32b c) (hd : u32b d) : Good Try.prog 47 [eQ f a b c d s t x B] (.tuple [.str (pkb f a b c d s t x B), .int .i64 0]) :=
  (pbytes_good _ _ _ _ _ _ _ _ _ ha hb hc hd).eq (by rw [pkR_yes h])
theorem pr_yes {f a b c d s t x : Int} {B : By} (h : okP f s t x B) (ha : u32b a) (hb : u32b b) (hc : u32b c) (hd : u32b d) : Good Try.prog 48 [.str (pkb f a b c d s t x B)] (.tuple [eQ f a b c d s t x B, .int .i64 0]) :=
  (pread_good _).eq (by rw [pk_back h ha hb hc hd])
abbrev bP : By := [1, 0, 0, 0, 0, 0, 0, 0, 0, 0, 0, 0, 0, 0, 0, 0, 0, 35, 9, 2, 104, 105]
theorem some10_good : Good Try.prog 109 [] (eQ 1 0 0 0 0 2 3 9 [104, 105]) := by
  apply good_at ak109 rfl rfl rfl
  conv => whnf
  refine AV.of_eqv ?_
  conv => whnf
  refine And.intro (by with_reducible rfl) ?_
  conv => whnf
  refine And.intro (by with_reducible rfl) ?_
  conv => whnf
  refine And.intro (by with_reducible rfl) ?_
  conv => whnf
  refine And.intro (by with_reducible rfl) ?_
  conv => whnf
  refine And.intro (by with_reducible rfl) ?_
  conv => whnf
  refine And.intro (by with_reducible rfl) ?_
  conv => whnf
  refine And.intro (by with_reducible rfl) ?_
  conv => whnf
  refine And.intro (by with_reducible rfl) ?_
  conv => whnf
  refine And.intro (by with_reducible rfl) ?_
  exact True.intro
theorem c_pb : Good Try.prog 47 [eQ 1 0 0 0 0 2 3 9 [104, 105]] (.tuple [.str bP, .int .i64 0]) :=
  (pbytes_good 1 0 0 0 0 2 3 9 [104, 105] u0P u0P u0P u0P).eq (by rw [pkR_yes (by decide)]; rfl)
theorem c_pr : Good Try.prog 48 [.str bP] (.tuple [eQ 1 0 0 0 0 2 3 9 [104, 105], .int .i64 0]) :=
  pr_yes (f := 1) (s := 2) (t := 3) (x := 9) (B := [104, 105]) (by decide) u0P u0P u0P u0P
theorem c_ps : Good Try.prog 48 [.str [115, 104, 111, 114, 116]] (.tuple [eQ 0 0 0 0 0 0 0 0 [], .int .i64 2]) :=
  (pread_good _).eq (by rw [show prd [115, 104, 111, 114, 116] = (zP, 2) from rfl]; rfl)
theorem c_pz : Good Try.prog 47 [eQ 0 0 0 0 0 0 0 0 []] (.tuple [.str [], .int .i64 1]) :=
  (pbytes_good 0 0 0 0 0 0 0 0 [] u0P u0P u0P u0P).eq (by rw [pkR_no (by decide)])
theorem c_h9 : Good Try.prog 49 [eQ 1 0 0 0 0 2 3 9 [104, 105], .int .i64 4, eP 0 0 0 0] (.tuple [eQ 4 0 0 0 0 2 3 8 [104, 105], .bool true]) :=
  hop_yes 4 0 0 0 0 (by decide) (by decide)
theorem c_h1 : Good Try.prog 49 [eQ 0 0 0 0 0 0 0 1 [], .int .i64 4, eP 0 0 0 0] (.tuple [eQ 0 0 0 0 0 0 0 0 [], .bool false]) :=
  hop_no 4 0 0 0 0 (by decide)
theorem c_pok : Good Try.prog 110 [eQ 1 0 0 0 0 2 3 9 [104, 105]] (.bool true) := (pright_good _ _ _ _ _ _ _ _ _).eq (by rw [decide_eq_true (by decide)])
theorem awake10_good : Good Try.prog 46 [] (.bool true) := by
  apply good_at ak46 rfl rfl rfl
  conv => whnf
  refine ⟨_, some10_good, ?_⟩
  conv => whnf
  refine ⟨_, c_pb, ?_⟩
  conv => whnf
  refine ⟨_, c_pr, ?_⟩
  conv => whnf
  refine ⟨_, c_h9, ?_⟩
  conv => whnf
  refine ⟨_, c_h1, ?_⟩
  conv => whnf
  refine ⟨_, c_ps, ?_⟩
  conv => whnf
  refine ⟨_, c_pz, ?_⟩
  conv => whnf
  refine br_r rfl rfl ?_
  conv => whnf
  refine And.intro (by decide) ?_
  conv => whnf
  refine br_l rfl rfl ?_
  conv => whnf
  refine br_l rfl rfl ?_
  conv => whnf
  refine And.intro (by decide) ?_
  refine And.intro (by decide) ?_
  refine And.intro (by decide) ?_
  conv => whnf
  refine br_l rfl rfl ?_
  conv => whnf
  refine br_l rfl rfl ?_
  conv => whnf
  refine br_l rfl rfl ?_
  conv => whnf
  refine br_l rfl rfl ?_
  conv => whnf
  refine br_l rfl rfl ?_
  conv => whnf
  refine br_l rfl rfl ?_
  conv => whnf
  refine br_l rfl rfl ?_
  conv => whnf
  refine ⟨_, some10_good, ?_⟩
  conv => whnf
  refine br_l rfl rfl ?_
  conv => whnf
  refine br_l rfl rfl ?_
  conv => whnf
  refine br_l rfl rfl ?_
  conv => whnf
  refine br_l rfl rfl ?_
  conv => whnf
  refine br_l rfl rfl ?_
  conv => whnf
  refine br_l rfl rfl ?_
  conv => whnf
  refine br_l rfl rfl ?_
  conv => whnf
  refine br_l rfl rfl ?_
  conv => whnf
  refine br_l rfl rfl ?_
  conv => whnf
  refine br_l rfl rfl ?_
  conv => whnf
  refine br_l rfl rfl ?_
  conv => whnf
  refine br_l rfl rfl ?_
  conv => whnf
  refine br_l rfl rfl ?_
  conv => whnf
  refine br_l rfl rfl ?_
  conv => whnf
  refine br_l rfl rfl ?_
  conv => whnf
  refine br_l rfl rfl ?_
  conv => whnf
  refine br_l rfl rfl ?_
  conv => whnf
  refine br_l rfl rfl ?_
  conv => whnf
  refine br_l rfl rfl ?_
  conv => whnf
  refine br_l rfl rfl ?_
  conv => whnf
  refine br_l rfl rfl ?_
  conv => whnf
  refine br_l rfl rfl ?_
  conv => whnf
  refine br_l rfl rfl ?_
  conv => whnf
  refine ⟨_, c_pok, ?_⟩
  conv => whnf
  refine br_l rfl rfl ?_
  conv => whnf
  refine AV.of_eqv ?_
  conv => whnf
  refine And.intro (by with_reducible rfl) ?_
  exact True.intro
theorem parcelBack_good (f a b c d s t x : Int) (B : By) (z : By) (ha : u32b a) (hb : u32b b) (hc : u32b c) (hd : u32b d) : Good Try.prog 9 [eQ f a b c d s t x B, .str z] (.bool true) := by
  by_cases h : okP f s t x B
  · apply good_at ak9 rfl rfl rfl
    conv => whnf
    refine And.intro (fun hc0 => ?_) (fun hc0 => ?_)
    · replace hc0 := of_decide_eq_false hc0
      conv => whnf
      refine br_l rfl rfl ?_
      conv => whnf
      refine br_l rfl rfl ?_
      conv => whnf
      refine br_r rfl rfl ?_
      conv => whnf
      refine And.intro (fun hc1 => ?_) (fun hc1 => ?_)
      · replace hc1 := of_decide_eq_true hc1
        conv => whnf
        refine ⟨_, awake10_good, ?_⟩
        conv => whnf
        refine AV.of_eqv ?_
        conv => whnf
        refine And.intro (by with_reducible rfl) ?_
        exact True.intro
      · replace hc1 := of_decide_eq_false hc1
        conv => whnf
        refine ⟨_, pb_yes ?_ ?_ ?_ ?_ ?_, ?_⟩
        · assumption
        · assumption
        · assumption
        · assumption
        · assumption
        · conv => whnf
          refine br_l rfl rfl ?_
          conv => whnf
          refine ⟨_, pr_yes ?_ ?_ ?_ ?_ ?_, ?_⟩
          · assumption
          · assumption
          · assumption
          · assumption
          · assumption
          · conv => whnf
            refine br_l rfl rfl ?_
            conv => whnf
            refine br_l rfl rfl ?_
            conv => whnf
            refine br_l rfl rfl ?_
            conv => whnf
            refine br_r rfl rfl ?_
            conv => whnf
            refine And.intro (fun hc2 => ?_) (fun hc2 => ?_)
            · simp only [Bool.not_eq_true', Bool.not_eq_false', Bool.and_eq_true, Bool.and_eq_false_imp, Bool.or_eq_true, Bool.or_eq_false_iff, Bool.and_true, Bool.true_and, Bool.not_true, Bool.not_false, decide_eq_true_eq, decide_eq_false_iff_not, Bool.decide_and] at hc2
              (simp at hc2; done)
            · simp only [Bool.not_eq_true', Bool.not_eq_false', Bool.and_eq_true, Bool.and_eq_false_imp, Bool.or_eq_true, Bool.or_eq_false_iff, Bool.and_true, Bool.true_and, Bool.not_true, Bool.not_false, decide_eq_true_eq, decide_eq_false_iff_not, Bool.decide_and] at hc2
              conv => whnf
              refine loop_at (α := Nat × Int) [] (fun ⟨k, g⟩ => [(9, .int .i64 (k : Int)), (10, .int .i64 (k : Int))]) (fun ⟨k, g⟩ => [(1, some ⟨true, 9, [[.int .i64 g, .int .u32 a, .int .u32 b, .int .u32 c, .int .u32 d, .int .i64 s, .int .i64 t, .int .i64 (x - (k : Int)), .str B]]⟩)]) (fun ⟨k, g⟩ => (k : Int) + 1 ≤ x) (fun ⟨k, g⟩ => (x - (k : Int)).toNat) ((0, f)) (st_of ?_) ?_ (by rintro ⟨k, g⟩ _; rfl) ?_
              · conv => whnf
                refine And.intro (by with_reducible rfl) ?_
                conv => whnf
                refine And.intro (by with_reducible rfl) ?_
                conv => whnf
                refine And.intro (by with_reducible rfl) ?_
                conv => whnf
                refine And.intro (by with_reducible rfl) ?_
                conv => whnf
                refine And.intro (by with_reducible rfl) ?_
                conv => whnf
                refine And.intro (by with_reducible rfl) ?_
                conv => whnf
                refine And.intro (by with_reducible rfl) ?_
                conv => whnf
                refine And.intro (by with_reducible rfl) ?_
                conv => whnf
                refine And.intro (by with_reducible rfl) ?_
                conv => whnf
                refine And.intro (by with_reducible rfl) ?_
                conv => whnf
                refine And.intro (by with_reducible rfl) ?_
                refine And.intro (by with_reducible rfl) ?_
                conv => whnf
                refine And.intro (by with_reducible rfl) ?_
                conv => whnf
                refine And.intro (by with_reducible rfl) ?_
                conv => whnf
                refine And.intro (by with_reducible rfl) ?_
                refine And.intro (by with_reducible rfl) ?_
                conv => whnf
                refine And.intro (by with_reducible rfl) ?_
                conv => whnf
                refine And.intro (by decide) ?_
                conv => whnf
                refine And.intro (by decide) ?_
                conv => whnf
                refine And.intro (by with_reducible rfl) ?_
                refine And.intro (by with_reducible rfl) ?_
                conv => whnf
                refine And.intro (by with_reducible rfl) ?_
                conv => whnf
                refine And.intro (by with_reducible rfl) ?_
                conv => whnf
                refine And.intro (by with_reducible rfl) ?_
                conv => whnf
                refine And.intro (by with_reducible rfl) ?_
                conv => whnf
                refine And.intro (by with_reducible rfl) ?_
                conv => whnf
                refine And.intro (by with_reducible rfl) ?_
                conv => whnf
                refine And.intro (by with_reducible rfl) ?_
                conv => whnf
                refine And.intro (by with_reducible rfl) ?_
                conv => whnf
                refine And.intro (by with_reducible rfl) ?_
                conv => whnf
                refine And.intro (by with_reducible rfl) ?_
                conv => whnf
                refine And.intro (by with_reducible rfl) ?_
                conv => whnf
                refine And.intro (by with_reducible rfl) ?_
                conv => whnf
                refine And.intro (by with_reducible rfl) ?_
                conv => whnf
                refine And.intro (by with_reducible rfl) ?_
                conv => whnf
                refine And.intro (by with_reducible rfl) ?_
                conv => whnf
                refine And.intro (by with_reducible rfl) ?_
                conv => whnf
                refine And.intro (by with_reducible rfl) ?_
                conv => whnf
                refine And.intro (by with_reducible rfl) ?_
                conv => whnf
                refine And.intro (by with_reducible rfl) ?_
                conv => whnf
                refine And.intro (by with_reducible rfl) ?_
                conv => whnf
                refine And.intro (by with_reducible rfl) ?_
                conv => whnf
                refine And.intro (by with_reducible rfl) ?_
                conv => whnf
                refine And.intro (by with_reducible rfl) ?_
                conv => whnf
                refine And.intro (by with_reducible rfl) ?_
                conv => whnf
                refine And.intro (by with_reducible rfl) ?_
                conv => whnf
                refine And.intro (by with_reducible rfl) ?_
                conv => whnf
                refine And.intro (by with_reducible rfl) ?_
                conv => whnf
                refine And.intro (by with_reducible rfl) ?_
                conv => whnf
                refine And.intro (by with_reducible rfl) ?_
                conv => whnf
                refine And.intro (by with_reducible rfl) ?_
                conv => whnf
                refine And.intro (by with_reducible rfl) ?_
                conv => whnf
                refine And.intro (by with_reducible rfl) ?_
                conv => whnf
                refine And.intro (by with_reducible rfl) ?_
                conv => whnf
                refine And.intro (by with_reducible rfl) ?_
                conv => whnf
                refine And.intro (by with_reducible rfl) ?_
                conv => whnf
                refine And.intro (by with_reducible rfl) ?_
                conv => whnf
                refine And.intro (by with_reducible rfl) ?_
                conv => whnf
                refine And.intro (by with_reducible rfl) ?_
                conv => whnf
                refine And.intro (by with_reducible rfl) ?_
                conv => whnf
                refine And.intro (by with_reducible rfl) ?_
                conv => whnf
                refine And.intro (by with_reducible rfl) ?_
                conv => whnf
                refine And.intro (by with_reducible rfl) ?_
                conv => whnf
                refine And.intro (by with_reducible rfl) ?_
                conv => whnf
                refine And.intro (by with_reducible rfl) ?_
                conv => whnf
                refine And.intro (by with_reducible rfl) ?_
                conv => whnf
                refine And.intro (by with_reducible rfl) ?_
                conv => whnf
                refine And.intro (by with_reducible rfl) ?_
                conv => whnf
                refine And.intro (by with_reducible rfl) ?_
                conv => whnf
                refine And.intro (by with_reducible rfl) ?_
                conv => whnf
                refine And.intro (by with_reducible rfl) ?_
                conv => whnf
                refine And.intro (by with_reducible rfl) ?_
                conv => whnf
                refine And.intro (by with_reducible rfl) ?_
                conv => whnf
                refine And.intro (by with_reducible rfl) ?_
                conv => whnf
                refine And.intro (by with_reducible rfl) ?_
                conv => whnf
                refine And.intro (by with_reducible rfl) ?_
                conv => whnf
                refine And.intro (by with_reducible rfl) ?_
                conv => whnf
                refine And.intro (by with_reducible rfl) ?_
                conv => whnf
                refine And.intro (by with_reducible rfl) ?_
                conv => whnf
                refine And.intro (by with_reducible rfl) ?_
                conv => whnf
                refine And.intro (by with_reducible rfl) ?_
                conv => whnf
                refine And.intro (by with_reducible rfl) ?_
                conv => whnf
                refine And.intro (by with_reducible rfl) ?_
                conv => whnf
                refine And.intro (by with_reducible rfl) ?_
                conv => whnf
                refine And.intro (by with_reducible rfl) ?_
                conv => whnf
                refine And.intro (by with_reducible rfl) ?_
                conv => whnf
                refine And.intro (by with_reducible rfl) ?_
                conv => whnf
                refine And.intro (by with_reducible rfl) ?_
                conv => whnf
                refine And.intro (by with_reducible rfl) ?_
                conv => whnf
                refine And.intro (by with_reducible rfl) ?_
                conv => whnf
                refine And.intro (by with_reducible rfl) ?_
                conv => whnf
                refine And.intro (by with_reducible rfl) ?_
                conv => whnf
                refine And.intro (by with_reducible rfl) ?_
                conv => whnf
                refine And.intro (by with_reducible rfl) ?_
                conv => whnf
                refine And.intro (by with_reducible rfl) ?_
                conv => whnf
                refine And.intro (by with_reducible rfl) ?_
                conv => whnf
                refine And.intro (by with_reducible rfl) ?_
                conv => whnf
                refine And.intro (by with_reducible rfl) ?_
                conv => whnf
                refine And.intro (by with_reducible rfl) ?_
                conv => whnf
                refine And.intro (by with_reducible rfl) ?_
                conv => whnf
                refine And.intro (by with_reducible rfl) ?_
                conv => whnf
                refine And.intro (by with_reducible rfl) ?_
                conv => whnf
                refine And.intro (by with_reducible rfl) ?_
                conv => whnf
                refine And.intro (by with_reducible rfl) ?_
                conv => whnf
                refine And.intro (by with_reducible rfl) ?_
                conv => whnf
                refine And.intro (by with_reducible rfl) ?_
                conv => whnf
                refine And.intro (by with_reducible rfl) ?_
                conv => whnf
                refine And.intro (by with_reducible rfl) ?_
                conv => whnf
                refine And.intro (by with_reducible rfl) ?_
                conv => whnf
                refine And.intro (by with_reducible rfl) ?_
                conv => whnf
                refine And.intro (by with_reducible rfl) ?_
                conv => whnf
                refine And.intro (by with_reducible rfl) ?_
                conv => whnf
                refine And.intro (by with_reducible rfl) ?_
                conv => whnf
                refine And.intro (by with_reducible rfl) ?_
                conv => whnf
                refine And.intro (by with_reducible rfl) ?_
                conv => whnf
                refine And.intro (by with_reducible rfl) ?_
                conv => whnf
                refine And.intro (by omega) ?_
                conv => whnf
                refine And.intro (by with_reducible rfl) ?_
                exact True.intro
              · dsimp only
                omega
              · rintro ⟨k, g⟩ nextl0 hIl0 ihl0
                try dsimp only at hIl0
                rcases Decidable.em (x - (k : Int) ≤ 1) with h1 | h1
                · conv => whnf
                  refine And.intro (fun hc3 => ?_) (fun hc3 => ?_)
                  · replace hc3 := of_decide_eq_true hc3
                    conv => whnf
                    refine ⟨_, hop_no _ _ _ _ _ ?_, ?_⟩
                    · assumption
                    · conv => whnf
                      refine br_l rfl rfl ?_
                      conv => whnf
                      refine And.intro (fun hc4 => ?_) (fun hc4 => ?_)
                      · replace hc4 := of_decide_eq_false (Bool.not_eq_true' _ |>.mp hc4)
                        (exfalso; simp only [wrap_i64] at *; omega)
                      · replace hc4 := of_decide_eq_true (Bool.not_eq_false' _ |>.mp hc4)
                        conv => whnf
                        refine ⟨_, pread_good _, ?_⟩
                        conv => whnf
                        refine And.intro (fun hc5 => ?_) (fun hc5 => ?_)
                        · replace hc5 := of_decide_eq_true hc5
                          conv => whnf
                          refine ⟨_, pfwd_good ?_, ?_⟩
                          · assumption
                          · conv => whnf
                            refine br_l rfl rfl ?_
                            conv => whnf
                            refine br_l rfl rfl ?_
                            conv => whnf
                            refine br_l rfl rfl ?_
                            conv => whnf
                            refine br_l rfl rfl ?_
                            conv => whnf
                            refine And.intro (fun hc6 => ?_) (fun hc6 => ?_)
                            · replace hc6 := of_decide_eq_true hc6
                              conv => whnf
                              refine ⟨_, awake10_good, ?_⟩
                              conv => whnf
                              refine br_l rfl rfl ?_
                              conv => whnf
                              refine AV.of_eqv ?_
                              conv => whnf
                              refine And.intro (by with_reducible rfl) ?_
                              exact True.intro
                            · replace hc6 := of_decide_eq_false hc6
                              contradiction
                        · replace hc5 := of_decide_eq_false hc5
                          conv => whnf
                          refine ⟨_, awake10_good, ?_⟩
                          conv => whnf
                          refine AV.of_eqv ?_
                          conv => whnf
                          refine And.intro (by with_reducible rfl) ?_
                          exact True.intro
                  · replace hc3 := of_decide_eq_false hc3
                    (exfalso; omega)
                · conv => whnf
                  refine And.intro (fun hc7 => ?_) (fun hc7 => ?_)
                  · replace hc7 := of_decide_eq_true hc7
                    conv => whnf
                    refine ⟨_, hop_yes _ _ _ _ _ ?_ ?_, ?_⟩
                    · assumption
                    · omega
                    · conv => whnf
                      refine br_r rfl rfl ?_
                      conv => whnf
                      refine And.intro (fun hc8 => ?_) (fun hc8 => ?_)
                      · replace hc8 := of_decide_eq_true (Bool.not_eq_false' _ |>.mp hc8)
                        conv => whnf
                        refine br_l rfl rfl ?_
                        conv => whnf
                        refine br_l rfl rfl ?_
                        conv => whnf
                        refine br_l rfl rfl ?_
                        conv => whnf
                        refine br_l rfl rfl ?_
                        conv => whnf
                        refine br_r rfl rfl ?_
                        conv => whnf
                        refine And.intro (fun hc9 => ?_) (fun hc9 => ?_)
                        · replace hc9 := of_decide_eq_true (Bool.not_eq_false' _ |>.mp hc9)
                          conv => whnf
                          refine br_l rfl rfl ?_
                          conv => whnf
                          refine br_l rfl rfl ?_
                          conv => whnf
                          refine br_l rfl rfl ?_
                          conv => whnf
                          refine br_l rfl rfl ?_
                          conv => whnf
                          refine br_r rfl rfl ?_
                          conv => whnf
                          refine And.intro (fun hc10 => ?_) (fun hc10 => ?_)
                          · replace hc10 := of_decide_eq_false (Bool.not_eq_true' _ |>.mp hc10)
                            contradiction
                          · replace hc10 := of_decide_eq_true (Bool.not_eq_false' _ |>.mp hc10)
                            conv => whnf
                            refine ihl0 ((k + 1, 1)) _ ?_ ?_ (st_of ?_)
                            · dsimp only
                              omega
                            · dsimp only
                              omega
                            · conv => whnf
                              refine And.intro (by with_reducible rfl) ?_
                              conv => whnf
                              refine And.intro (by with_reducible rfl) ?_
                              conv => whnf
                              refine And.intro (by with_reducible rfl) ?_
                              conv => whnf
                              refine And.intro (by with_reducible rfl) ?_
                              conv => whnf
                              refine And.intro (by with_reducible rfl) ?_
                              conv => whnf
                              refine And.intro (by with_reducible rfl) ?_
                              conv => whnf
                              refine And.intro (by with_reducible rfl) ?_
                              conv => whnf
                              refine And.intro (by with_reducible rfl) ?_
                              conv => whnf
                              refine And.intro (by with_reducible rfl) ?_
                              conv => whnf
                              refine And.intro (by with_reducible rfl) ?_
                              conv => whnf
                              refine And.intro (by with_reducible rfl) ?_
                              refine And.intro (by with_reducible rfl) ?_
                              conv => whnf
                              refine And.intro (by with_reducible rfl) ?_
                              conv => whnf
                              refine And.intro (by with_reducible rfl) ?_
                              conv => whnf
                              refine And.intro (by with_reducible rfl) ?_
                              refine And.intro (by with_reducible rfl) ?_
                              conv => whnf
                              refine And.intro (by with_reducible rfl) ?_
                              conv => whnf
                              refine And.intro (by (simp only [wrap_i64] at *; omega)) ?_
                              conv => whnf
                              refine And.intro (by (simp only [wrap_i64] at *; omega)) ?_
                              conv => whnf
                              refine And.intro (by with_reducible rfl) ?_
                              refine And.intro (by with_reducible rfl) ?_
                              conv => whnf
                              refine And.intro (by with_reducible rfl) ?_
                              conv => whnf
                              refine And.intro (by with_reducible rfl) ?_
                              conv => whnf
                              refine And.intro (by with_reducible rfl) ?_
                              conv => whnf
                              refine And.intro (by with_reducible rfl) ?_
                              conv => whnf
                              refine And.intro (by with_reducible rfl) ?_
                              conv => whnf
                              refine And.intro (by with_reducible rfl) ?_
                              conv => whnf
                              refine And.intro (by with_reducible rfl) ?_
                              conv => whnf
                              refine And.intro (by with_reducible rfl) ?_
                              conv => whnf
                              refine And.intro (by with_reducible rfl) ?_
                              conv => whnf
                              refine And.intro (by with_reducible rfl) ?_
                              conv => whnf
                              refine And.intro (by with_reducible rfl) ?_
                              conv => whnf
                              refine And.intro (by with_reducible rfl) ?_
                              conv => whnf
                              refine And.intro (by with_reducible rfl) ?_
                              conv => whnf
                              refine And.intro (by with_reducible rfl) ?_
                              conv => whnf
                              refine And.intro (by with_reducible rfl) ?_
                              conv => whnf
                              refine And.intro (by with_reducible rfl) ?_
                              conv => whnf
                              refine And.intro (by with_reducible rfl) ?_
                              conv => whnf
                              refine And.intro (by with_reducible rfl) ?_
                              conv => whnf
                              refine And.intro (by with_reducible rfl) ?_
                              conv => whnf
                              refine And.intro (by with_reducible rfl) ?_
                              conv => whnf
                              refine And.intro (by with_reducible rfl) ?_
                              conv => whnf
                              refine And.intro (by with_reducible rfl) ?_
                              conv => whnf
                              refine And.intro (by with_reducible rfl) ?_
                              conv => whnf
                              refine And.intro (by with_reducible rfl) ?_
                              conv => whnf
                              refine And.intro (by with_reducible rfl) ?_
                              conv => whnf
                              refine And.intro (by with_reducible rfl) ?_
                              conv => whnf
                              refine And.intro (by with_reducible rfl) ?_
                              conv => whnf
                              refine And.intro (by with_reducible rfl) ?_
                              conv => whnf
                              refine And.intro (by with_reducible rfl) ?_
                              conv => whnf
                              refine And.intro (by with_reducible rfl) ?_
                              conv => whnf
                              refine And.intro (by with_reducible rfl) ?_
                              conv => whnf
                              refine And.intro (by with_reducible rfl) ?_
                              conv => whnf
                              refine And.intro (by with_reducible rfl) ?_
                              conv => whnf
                              refine And.intro (by with_reducible rfl) ?_
                              conv => whnf
                              refine And.intro (by with_reducible rfl) ?_
                              conv => whnf
                              refine And.intro (by with_reducible rfl) ?_
                              conv => whnf
                              refine And.intro (by with_reducible rfl) ?_
                              conv => whnf
                              refine And.intro (by with_reducible rfl) ?_
                              conv => whnf
                              refine And.intro (by with_reducible rfl) ?_
                              conv => whnf
                              refine And.intro (by with_reducible rfl) ?_
                              conv => whnf
                              refine And.intro (by with_reducible rfl) ?_
                              conv => whnf
                              refine And.intro (by with_reducible rfl) ?_
                              conv => whnf
                              refine And.intro (by with_reducible rfl) ?_
                              conv => whnf
                              refine And.intro (by with_reducible rfl) ?_
                              conv => whnf
                              refine And.intro (by with_reducible rfl) ?_
                              conv => whnf
                              refine And.intro (by with_reducible rfl) ?_
                              conv => whnf
                              refine And.intro (by with_reducible rfl) ?_
                              conv => whnf
                              refine And.intro (by with_reducible rfl) ?_
                              conv => whnf
                              refine And.intro (by with_reducible rfl) ?_
                              conv => whnf
                              refine And.intro (by with_reducible rfl) ?_
                              conv => whnf
                              refine And.intro (by with_reducible rfl) ?_
                              conv => whnf
                              refine And.intro (by with_reducible rfl) ?_
                              conv => whnf
                              refine And.intro (by with_reducible rfl) ?_
                              conv => whnf
                              refine And.intro (by with_reducible rfl) ?_
                              conv => whnf
                              refine And.intro (by with_reducible rfl) ?_
                              conv => whnf
                              refine And.intro (by with_reducible rfl) ?_
                              conv => whnf
                              refine And.intro (by with_reducible rfl) ?_
                              conv => whnf
                              refine And.intro (by with_reducible rfl) ?_
                              conv => whnf
                              refine And.intro (by with_reducible rfl) ?_
                              conv => whnf
                              refine And.intro (by with_reducible rfl) ?_
                              conv => whnf
                              refine And.intro (by with_reducible rfl) ?_
                              conv => whnf
                              refine And.intro (by with_reducible rfl) ?_
                              conv => whnf
                              refine And.intro (by with_reducible rfl) ?_
                              conv => whnf
                              refine And.intro (by with_reducible rfl) ?_
                              conv => whnf
                              refine And.intro (by with_reducible rfl) ?_
                              conv => whnf
                              refine And.intro (by with_reducible rfl) ?_
                              conv => whnf
                              refine And.intro (by with_reducible rfl) ?_
                              conv => whnf
                              refine And.intro (by with_reducible rfl) ?_
                              conv => whnf
                              refine And.intro (by with_reducible rfl) ?_
                              conv => whnf
                              refine And.intro (by with_reducible rfl) ?_
                              conv => whnf
                              refine And.intro (by with_reducible rfl) ?_
                              conv => whnf
                              refine And.intro (by with_reducible rfl) ?_
                              conv => whnf
                              refine And.intro (by with_reducible rfl) ?_
                              conv => whnf
                              refine And.intro (by with_reducible rfl) ?_
                              conv => whnf
                              refine And.intro (by with_reducible rfl) ?_
                              conv => whnf
                              refine And.intro (by with_reducible rfl) ?_
                              conv => whnf
                              refine And.intro (by with_reducible rfl) ?_
                              conv => whnf
                              refine And.intro (by with_reducible rfl) ?_
                              conv => whnf
                              refine And.intro (by with_reducible rfl) ?_
                              conv => whnf
                              refine And.intro (by with_reducible rfl) ?_
                              conv => whnf
                              refine And.intro (by with_reducible rfl) ?_
                              conv => whnf
                              refine And.intro (by with_reducible rfl) ?_
                              conv => whnf
                              refine And.intro (by with_reducible rfl) ?_
                              conv => whnf
                              refine And.intro (by with_reducible rfl) ?_
                              conv => whnf
                              refine And.intro (by with_reducible rfl) ?_
                              conv => whnf
                              refine And.intro (by with_reducible rfl) ?_
                              conv => whnf
                              refine And.intro (by with_reducible rfl) ?_
                              conv => whnf
                              refine And.intro (by with_reducible rfl) ?_
                              conv => whnf
                              refine And.intro (by with_reducible rfl) ?_
                              conv => whnf
                              refine And.intro (by with_reducible rfl) ?_
                              conv => whnf
                              refine And.intro (by with_reducible rfl) ?_
                              conv => whnf
                              refine And.intro (by with_reducible rfl) ?_
                              conv => whnf
                              refine And.intro (by with_reducible rfl) ?_
                              conv => whnf
                              refine And.intro (by with_reducible rfl) ?_
                              conv => whnf
                              refine And.intro (by with_reducible rfl) ?_
                              conv => whnf
                              refine And.intro (by omega) ?_
                              conv => whnf
                              refine And.intro (by with_reducible rfl) ?_
                              exact True.intro
                        · replace hc9 := of_decide_eq_false (Bool.not_eq_true' _ |>.mp hc9)
                          contradiction
                      · replace hc8 := of_decide_eq_false (Bool.not_eq_true' _ |>.mp hc8)
                        contradiction
                  · replace hc7 := of_decide_eq_false hc7
                    (exfalso; omega)
    · replace hc0 := of_decide_eq_true hc0
      (exfalso; omega)
  · apply good_at ak9 rfl rfl rfl
    conv => whnf
    refine And.intro (fun hc0 => ?_) (fun hc0 => ?_)
    · replace hc0 := of_decide_eq_false hc0
      conv => whnf
      refine br_l rfl rfl ?_
      conv => whnf
      refine br_l rfl rfl ?_
      conv => whnf
      refine br_r rfl rfl ?_
      conv => whnf
      refine And.intro (fun hc1 => ?_) (fun hc1 => ?_)
      · replace hc1 := of_decide_eq_true hc1
        conv => whnf
        refine ⟨_, awake10_good, ?_⟩
        conv => whnf
        refine AV.of_eqv ?_
        conv => whnf
        refine And.intro (by with_reducible rfl) ?_
        exact True.intro
      · replace hc1 := of_decide_eq_false hc1
        conv => whnf
        refine ⟨_, pb_no ?_ ?_ ?_ ?_ ?_, ?_⟩
        · assumption
        · assumption
        · assumption
        · assumption
        · assumption
        · conv => whnf
          refine br_r rfl rfl ?_
          conv => whnf
          refine ⟨_, pread_good _, ?_⟩
          conv => whnf
          refine And.intro (fun hc2 => ?_) (fun hc2 => ?_)
          · replace hc2 := of_decide_eq_true hc2
            conv => whnf
            refine ⟨_, pfwd_good ?_, ?_⟩
            · assumption
            · conv => whnf
              refine br_l rfl rfl ?_
              conv => whnf
              refine br_l rfl rfl ?_
              conv => whnf
              refine br_l rfl rfl ?_
              conv => whnf
              refine br_l rfl rfl ?_
              conv => whnf
              refine And.intro (fun hc3 => ?_) (fun hc3 => ?_)
              · replace hc3 := of_decide_eq_true hc3
                conv => whnf
                refine ⟨_, awake10_good, ?_⟩
                conv => whnf
                refine br_l rfl rfl ?_
                conv => whnf
                refine AV.of_eqv ?_
                conv => whnf
                refine And.intro (by with_reducible rfl) ?_
                exact True.intro
              · replace hc3 := of_decide_eq_false hc3
                contradiction
          · replace hc2 := of_decide_eq_false hc2
            conv => whnf
            refine ⟨_, awake10_good, ?_⟩
            conv => whnf
            refine AV.of_eqv ?_
            conv => whnf
            refine And.intro (by with_reducible rfl) ?_
            exact True.intro
    · replace hc0 := of_decide_eq_true hc0
      conv => whnf
      refine br_r rfl rfl ?_
      conv => whnf
      refine br_r rfl rfl ?_
      conv => whnf
      refine br_l rfl rfl ?_
      conv => whnf
      refine br_l rfl rfl ?_
      conv => whnf
      refine ⟨_, awake10_good, ?_⟩
      conv => whnf
      refine AV.of_eqv ?_
      conv => whnf
      refine And.intro (by with_reducible rfl) ?_
      exact True.intro
end Go.Proofs.Ytkcdeefnkbbacaa

/- Parcels: the contracts of Right, Bytes, Read, Hop, and the law ParcelBack. -/
import Derived.Test.YtkcdeefnkbbacaaWB
import Derived.Test.YtkcdeefnkbbacaaW10c
set_option maxRecDepth 100000
set_option linter.unusedSimpArgs false
set_option linter.unusedVariables false
namespace Go.Proofs.Ytkcdeefnkbbacaa
open Go.RowKit
set_option maxHeartbeats 4000000
abbrev eQ (f a b c d s t x : Int) (B : By) : AV := .agg [.int .i64 f, .int .u32 a, .int .u32 b, .int .u32 c, .int .u32 d, .int .i64 s, .int .i64 t, .int .i64 x, .str B]
abbrev okP (f s t x : Int) (B : By) : Prop := 0 ≤ f ∧ f < 16 ∧ 0 ≤ s ∧ s < 16 ∧ 0 ≤ t ∧ t < 16 ∧ 1 ≤ x ∧ x ≤ 64 ∧ B.length ≤ 64
theorem pright_good (f a b c d s t x : Int) (B : By) : Good Try.prog 110 [eQ f a b c d s t x B] (.bool (decide (okP f s t x B))) := by
  apply good_at ak110 rfl rfl rfl
  conv => whnf
  refine ⟨_, right3_good _, ?_⟩
  conv => whnf
  refine And.intro (fun hc0 => ?_) (fun hc0 => ?_)
  · replace hc0 := of_decide_eq_true hc0
    conv => whnf
    refine br_l rfl rfl ?_
    conv => whnf
    refine br_l rfl rfl ?_
    conv => whnf
    refine ⟨_, right3_good _, ?_⟩
    conv => whnf
    refine br_l rfl rfl ?_
    conv => whnf
    refine And.intro (fun hc1 => ?_) (fun hc1 => ?_)
    · replace hc1 := of_decide_eq_true hc1
      conv => whnf
      refine br_l rfl rfl ?_
      conv => whnf
      refine br_l rfl rfl ?_
      conv => whnf
      refine ⟨_, right3_good _, ?_⟩
      conv => whnf
      refine br_l rfl rfl ?_
      conv => whnf
      refine And.intro (fun hc2 => ?_) (fun hc2 => ?_)
      · replace hc2 := of_decide_eq_true hc2
        conv => whnf
        refine br_l rfl rfl ?_
        conv => whnf
        refine br_l rfl rfl ?_
        conv => whnf
        refine br_l rfl rfl ?_
        conv => whnf
        refine And.intro (fun hc3 => ?_) (fun hc3 => ?_)
        · replace hc3 := of_decide_eq_true hc3
          conv => whnf
          refine br_l rfl rfl ?_
          conv => whnf
          refine br_l rfl rfl ?_
          conv => whnf
          refine br_l rfl rfl ?_
          conv => whnf
          refine And.intro (fun hc4 => ?_) (fun hc4 => ?_)
          · replace hc4 := of_decide_eq_true hc4
            conv => whnf
            refine br_l rfl rfl ?_
            conv => whnf
            refine br_l rfl rfl ?_
            conv => whnf
            refine br_l rfl rfl ?_
            conv => whnf
            refine br_l rfl rfl ?_
            conv => whnf
            refine AV.of_eqv ?_
            conv => whnf
            refine And.intro (by exact decide_eq_decide.2 (by omega)) ?_
            exact True.intro
          · replace hc4 := of_decide_eq_false hc4
            conv => whnf
            refine br_r rfl rfl ?_
            conv => whnf
            refine br_r rfl rfl ?_
            conv => whnf
            refine br_r rfl rfl ?_
            conv => whnf
            refine br_r rfl rfl ?_
            conv => whnf
            refine AV.of_eqv ?_
            conv => whnf
            refine And.intro (by exact (decide_eq_false (by omega)).symm) ?_
            exact True.intro
        · replace hc3 := of_decide_eq_false hc3
          conv => whnf
          refine br_r rfl rfl ?_
          conv => whnf
          refine br_r rfl rfl ?_
          conv => whnf
          refine br_r rfl rfl ?_
          conv => whnf
          refine br_r rfl rfl ?_
          conv => whnf
          refine br_r rfl rfl ?_
          conv => whnf
          refine br_r rfl rfl ?_
          conv => whnf
          refine br_r rfl rfl ?_
          conv => whnf
          refine br_r rfl rfl ?_
          conv => whnf
          refine AV.of_eqv ?_
          conv => whnf
          refine And.intro (by exact (decide_eq_false (by omega)).symm) ?_
          exact True.intro
      · replace hc2 := of_decide_eq_false hc2
        conv => whnf
        refine br_r rfl rfl ?_
        conv => whnf
        refine br_r rfl rfl ?_
        conv => whnf
        refine br_r rfl rfl ?_
        conv => whnf
        refine br_r rfl rfl ?_
        conv => whnf
        refine br_r rfl rfl ?_
        conv => whnf
        refine br_r rfl rfl ?_
        conv => whnf
        refine br_r rfl rfl ?_
        conv => whnf
        refine br_r rfl rfl ?_
        conv => whnf
        refine br_r rfl rfl ?_
        conv => whnf
        refine br_r rfl rfl ?_
        conv => whnf
        refine br_r rfl rfl ?_
        conv => whnf
        refine br_r rfl rfl ?_
        conv => whnf
        refine AV.of_eqv ?_
        conv => whnf
        refine And.intro (by exact (decide_eq_false (by omega)).symm) ?_
        exact True.intro
    · replace hc1 := of_decide_eq_false hc1
      conv => whnf
      refine br_r rfl rfl ?_
      conv => whnf
      refine br_r rfl rfl ?_
      conv => whnf
      refine br_r rfl rfl ?_
      conv => whnf
      refine br_r rfl rfl ?_
      conv => whnf
      refine br_r rfl rfl ?_
      conv => whnf
      refine br_r rfl rfl ?_
      conv => whnf
      refine br_r rfl rfl ?_
      conv => whnf
      refine br_r rfl rfl ?_
      conv => whnf
      refine br_r rfl rfl ?_
      conv => whnf
      refine br_r rfl rfl ?_
      conv => whnf
      refine br_r rfl rfl ?_
      conv => whnf
      refine br_r rfl rfl ?_
      conv => whnf
      refine br_r rfl rfl ?_
      conv => whnf
      refine br_r rfl rfl ?_
      conv => whnf
      refine br_r rfl rfl ?_
      conv => whnf
      refine br_r rfl rfl ?_
      conv => whnf
      refine AV.of_eqv ?_
      conv => whnf
      refine And.intro (by exact (decide_eq_false (by omega)).symm) ?_
      exact True.intro
  · replace hc0 := of_decide_eq_false hc0
    conv => whnf
    refine br_r rfl rfl ?_
    conv => whnf
    refine br_r rfl rfl ?_
    conv => whnf
    refine br_r rfl rfl ?_
    conv => whnf
    refine br_r rfl rfl ?_
    conv => whnf
    refine br_r rfl rfl ?_
    conv => whnf
    refine br_r rfl rfl ?_
    conv => whnf
    refine br_r rfl rfl ?_
    conv => whnf
    refine br_r rfl rfl ?_
    conv => whnf
    refine br_r rfl rfl ?_
    conv => whnf
    refine br_r rfl rfl ?_
    conv => whnf
    refine br_r rfl rfl ?_
    conv => whnf
    refine br_r rfl rfl ?_
    conv => whnf
    refine br_r rfl rfl ?_
    conv => whnf
    refine br_r rfl rfl ?_
    conv => whnf
    refine br_r rfl rfl ?_
    conv => whnf
    refine br_r rfl rfl ?_
    conv => whnf
    refine br_r rfl rfl ?_
    conv => whnf
    refine br_r rfl rfl ?_
    conv => whnf
    refine br_r rfl rfl ?_
    conv => whnf
    refine br_r rfl rfl ?_
    conv => whnf
    refine AV.of_eqv ?_
    conv => whnf
    refine And.intro (by exact (decide_eq_false (by omega)).symm) ?_
    exact True.intro
def pkb (f a b c d s t x : Int) (B : By) : By := nb f 1 ++ pb a b c d ++ nb (16 * s + t) 1 ++ nb x 1 ++ (nb B.length 1 ++ B)
theorem pkb_len (f a b c d s t x : Int) (B : By) : (pkb f a b c d s t x B).length = 20 + B.length := by simp only [pkb, nb_len, pb_len, List.length_append]; omega
def pkR (f a b c d s t x : Int) (B : By) : By × Int := if okP f s t x B then (pkb f a b c d s t x B, 0) else ([], 1)
theorem pkR_yes {f a b c d s t x : Int} {B : By} (h : okP f s t x B) : pkR f a b c d s t x B = (pkb f a b c d s t x B, 0) := if_pos h
theorem pkR_no {f a b c d s t x : Int} {B : By} (h : ¬ okP f s t x B) : pkR f a b c d s t x B = ([], 1) := if_neg h
theorem wr_uB {x : Int} (h : 0 ≤ x) (h2 : x ≤ 65535) : IntKind.u64.wrap x = x := by rw [wrap_u64]; omega
theorem blob_ok {B : By} (h : B.length ≤ 64) : Good Try.prog 111 [.str B] (.tuple [.str (nb B.length 1 ++ B), .int .i64 0]) :=
  (blob_good B (by omega)).eq (by
    have e : blobOf B = (nb B.length 1 ++ B, 0) := by unfold blobOf nb; rw [if_neg (by omega), Int.toNat_natCast]
    rw [e])
theorem pbytes_good (f a b c d s t x : Int) (B : By) (ha : u32b a) (hb : u32b b) (hc : u32b c) (hd : u32b d) : Good Try.prog 47 [eQ f a b c d s t x B] (.tuple [.str (pkR f a b c d s t x B).1, .int .i64 (pkR f a b c d s t x B).2]) := by
  by_cases h : okP f s t x B
  · rw [pkR_yes h]
    have hB := h.2.2.2.2.2.2.2.2
    have e1 := wr_uB h.1 (by omega)
    have e2 : IntKind.u64.wrap (IntKind.i64.wrap (IntKind.i64.wrap (16 * s) + t)) = 16 * s + t := by rw [wrap_i64, wrap_i64, wrap_u64]; omega
    have e3 := wr_uB (x := x) (by omega) (by omega)
    apply good_at ak47 rfl rfl rfl
    conv => whnf
    refine ⟨_, pright_good _ _ _ _ _ _ _ _ _, ?_⟩
    conv => whnf
    refine And.intro (fun hc0 => ?_) (fun hc0 => ?_)
    · replace hc0 := of_decide_eq_false (Bool.not_eq_true' _ |>.mp hc0)
      contradiction
    · replace hc0 := of_decide_eq_true (Bool.not_eq_false' _ |>.mp hc0)
      conv => whnf
      refine ⟨_, blob_ok ?_, ?_⟩
      · assumption
      · conv => whnf
        refine br_r rfl rfl ?_
        conv => whnf
        refine And.intro (by exact rfl) ?_
        conv => whnf
        refine ⟨_, (num_good _ _ 1) ?_ ?_ ?_ ?_, ?_⟩
        · omega
        · omega
        · decide
        · decide
        · conv => whnf
          refine ⟨_, ebytes_good _ _ _ _ ?_ ?_ ?_ ?_, ?_⟩
          · assumption
          · assumption
          · assumption
          · assumption
          · conv => whnf
            refine And.intro (by (simp only [nb_len, pb_len, maxLen_eq, List.length_append]; omega)) ?_
            conv => whnf
            refine And.intro (by exact rfl) ?_
            conv => whnf
            refine ⟨_, (num_good _ _ 1) ?_ ?_ ?_ ?_, ?_⟩
            · omega
            · omega
            · decide
            · decide
            · conv => whnf
              refine And.intro (by (simp only [nb_len, pb_len, maxLen_eq, List.length_append]; omega)) ?_
              conv => whnf
              refine ⟨_, (num_good _ _ 1) ?_ ?_ ?_ ?_, ?_⟩
              · omega
              · omega
              · decide
              · decide
              · conv => whnf
                refine And.intro (by (simp only [nb_len, pb_len, maxLen_eq, List.length_append]; omega)) ?_
                conv => whnf
                refine And.intro (by (simp only [nb_len, pb_len, maxLen_eq, List.length_append]; omega)) ?_
                conv => whnf
                refine AV.of_eqv ?_
                conv => whnf
                refine And.intro (by (rw [e1, e2, e3]; rfl)) ?_
                conv => whnf
                refine And.intro (by with_reducible rfl) ?_
                exact True.intro
  · rw [pkR_no h]
    apply good_at ak47 rfl rfl rfl
    conv => whnf
    refine ⟨_, pright_good _ _ _ _ _ _ _ _ _, ?_⟩
    conv => whnf
    refine And.intro (fun hc0 => ?_) (fun hc0 => ?_)
    · replace hc0 := of_decide_eq_false (Bool.not_eq_true' _ |>.mp hc0)
      conv => whnf
      refine AV.of_eqv ?_
      conv => whnf
      refine And.intro (by with_reducible rfl) ?_
      conv => whnf
      refine And.intro (by with_reducible rfl) ?_
      exact True.intro
    · replace hc0 := of_decide_eq_true (Bool.not_eq_false' _ |>.mp hc0)
      contradiction
/-- what is read -/
abbrev rS (s : By) : By := List.drop 16 (List.drop (Int.toNat 1) (List.take (Int.toNat 19) s))
abbrev qS (s : By) (k : Nat) : Int := q4 (List.drop (Int.toNat 1) (List.take (Int.toNat 19) s)) k
def fS (s : By) : Int := ((valB 0 (s.take 1) : Nat) : Int)
def eS (s : By) : Int := ((valB 0 ((rS s).take 1) : Nat) : Int)
def tS (s : By) : Int := ((valB 0 (((rS s).drop 1).take 1) : Nat) : Int)
def uS (s : By) : By × By × Int := unblobOf (s.drop 19)
abbrev Pk := Int × Int × Int × Int × Int × Int × Int × Int × By
def prdV (s : By) : Pk := (fS s, qS s 0, qS s 1, qS s 2, qS s 3, eS s / 16, eS s % 16, tS s, (uS s).1)
abbrev okS (s : By) : Prop := (uS s).2.1 = [] ∧ okP (fS s) (eS s / 16) (eS s % 16) (tS s) (uS s).1
def zP : Pk := (0, 0, 0, 0, 0, 0, 0, 0, [])
def prd (s : By) : Pk × Int :=
  if s.length < 20 then (zP, 2)
  else if (uS s).2.2 = 0 then (if okS s then (prdV s, 0) else (zP, 3)) else (zP, (uS s).2.2)
abbrev aP (x : Pk) : AV := eQ x.1 x.2.1 x.2.2.1 x.2.2.2.1 x.2.2.2.2.1 x.2.2.2.2.2.1 x.2.2.2.2.2.2.1 x.2.2.2.2.2.2.2.1 x.2.2.2.2.2.2.2.2
theorem unblob_s {s : By} : Good Try.prog 112 [.str (List.drop (Int.toNat 19) (List.take ((s.length : Int)).toNat s))] (.tuple [.str (uS s).1, .str (uS s).2.1, .int .i64 (uS s).2.2]) := by
  have e : List.drop (Int.toNat 19) (List.take ((s.length : Int)).toNat s) = s.drop 19 := by rw [Int.toNat_natCast, List.take_length]; rfl
  rw [e]
  exact unblob_good _
theorem len_s {s : By} (hl : ¬ s.length < 20) : (List.drop (Int.toNat 1) (List.take (Int.toNat 19) s)).length = 18 := by
  show (List.drop 1 (List.take 19 s)).length = 18
  rw [List.length_drop, List.length_take]; omega
theorem len_r {s : By} (hl : ¬ s.length < 20) : (rS s).length = 2 := by rw [List.length_drop, len_s hl]
theorem eread_q {s : By} (hl : ¬ s.length < 20) : Good Try.prog 83 [.str (List.drop (Int.toNat 1) (List.take (Int.toNat 19) s))] (.tuple [eP (qS s 0) (qS s 1) (qS s 2) (qS s 3), .str (rS s), .int .i64 0]) :=
  eread_ok _ (by rw [len_s hl]; omega)
theorem wyB {s : By} {y : UInt8} (hy : s[0]? = some y) : IntKind.i64.wrap ((y.toNat : Nat) : Int) = ((valB 0 (s.take 1) : Nat) : Int) := by
  rw [← hd_val hy]; exact w64b (by have := y.toNat_lt; omega)
theorem eS_b (s : By) : 0 ≤ eS s ∧ eS s ≤ 255 := by have := va1_b (rS s); unfold eS; omega
theorem quo16 {x : Int} (h : 0 ≤ x ∧ x ≤ 255) : IntKind.i64.wrap (x.tdiv 16) = x / 16 := by rw [Int.tdiv_eq_ediv_of_nonneg h.1, wrap_i64]; omega
theorem rem16 {x : Int} (h : 0 ≤ x) : x.tmod 16 = x % 16 := Int.tmod_eq_emod_of_nonneg h
theorem pright_s {f a b c d s t x f' s' t' x' : Int} {B : By} (e1 : f = f') (e2 : s = s') (e3 : t = t') (e4 : x = x') : Good Try.prog 110 [eQ f a b c d s t x B] (.bool (decide (okP f' s' t' x' B))) := by
  subst e1; subst e2; subst e3; subst e4; exact pright_good _ _ _ _ _ _ _ _ _
theorem y_f {s : By} {y : UInt8} (hy : s[0]? = some y) : IntKind.i64.wrap ((y.toNat : Nat) : Int) = fS s := wyB hy
theorem y_e {s : By} {y : UInt8} (hy : (rS s)[0]? = some y) : IntKind.i64.wrap ((y.toNat : Nat) : Int) = eS s := wyB hy
theorem y_t {s : By} {y : UInt8} (hy : (rS s)[1]? = some y) : IntKind.i64.wrap ((y.toNat : Nat) : Int) = tS s := wyB (by rw [List.getElem?_drop]; exact hy)
theorem pright_q {s : By} {a b c d : Int} {f e t : UInt8} {B : By} (hf : s[0]? = some f) (he : (rS s)[0]? = some e) (ht : (rS s)[1]? = some t) : Good Try.prog 110 [eQ (IntKind.i64.wrap ((f.toNat : Nat) : Int)) a b c d (IntKind.i64.wrap ((IntKind.i64.wrap ((e.toNat : Nat) : Int)).tdiv 16)) ((IntKind.i64.wrap ((e.toNat : Nat) : Int)).tmod 16) (IntKind.i64.wrap ((t.toNat : Nat) : Int)) B] (.bool (decide (okP (fS s) (eS s / 16) (eS s % 16) (tS s) B))) := by
  rw [y_f hf, y_e he, y_t ht, quo16 (eS_b s), rem16 (eS_b s).1]
  exact pright_good _ _ _ _ _ _ _ _ _
theorem if3 {l : By} (h : (if l = [] then (0 : Int) else 3) = 0) : l = [] := by
  by_cases e : l = []
  · exact e
  · rw [if_neg e] at h; exact absurd h (by decide)
theorem pread_good (s : By) : Good Try.prog 48 [.str s] (.tuple [aP (prd s).1, .int .i64 (prd s).2]) := by
  by_cases hl : s.length < 20
  · rw [show prd s = (zP, 2) from if_pos hl]
    apply good_at ak48 rfl rfl rfl
    conv => whnf
    refine And.intro (fun hc0 => ?_) (fun hc0 => ?_)
    · replace hc0 := of_decide_eq_true hc0
      conv => whnf
      refine AV.of_eqv ?_
      conv => whnf
      refine And.intro (by decide) ?_
      conv => whnf
      refine And.intro (by decide) ?_
      conv => whnf
      refine And.intro (by decide) ?_
      conv => whnf
      refine And.intro (by decide) ?_
      conv => whnf
      refine And.intro (by decide) ?_
      conv => whnf
      refine And.intro (by decide) ?_
      conv => whnf
      refine And.intro (by decide) ?_
      conv => whnf
      refine And.intro (by decide) ?_
      conv => whnf
      refine And.intro (by decide) ?_
      conv => whnf
      refine And.intro (by with_reducible rfl) ?_
      exact True.intro
    · replace hc0 := of_decide_eq_false hc0
      (exfalso; omega)
  by_cases hu : (uS s).2.2 = 0
  · have hq := eS_b s
    by_cases ho : okS s
    · rw [show prd s = (prdV s, 0) by unfold prd; rw [if_neg hl, if_pos hu, if_pos ho]]
      have lr := len_r hl
      apply good_at ak48 rfl rfl rfl
      conv => whnf
      refine And.intro (fun hc0 => ?_) (fun hc0 => ?_)
      · replace hc0 := of_decide_eq_true hc0
        (exfalso; omega)
      · replace hc0 := of_decide_eq_false hc0
        conv => whnf
        refine And.intro (by decide) ?_
        refine And.intro (by omega) ?_
        refine And.intro (by omega) ?_
        conv => whnf
        refine ⟨_, unblob_s, ?_⟩
        conv => whnf
        refine And.intro (fun hc1 => ?_) (fun hc1 => ?_)
        · replace hc1 := of_decide_eq_false (Bool.not_eq_true' _ |>.mp hc1)
          contradiction
        · replace hc1 := of_decide_eq_true (Bool.not_eq_false' _ |>.mp hc1)
          conv => whnf
          refine And.intro (by decide) ?_
          refine And.intro (by decide) ?_
          refine And.intro (by omega) ?_
          conv => whnf
          refine ⟨_, eread_q ?_, ?_⟩
          · assumption
          · conv => whnf
            refine br_r rfl rfl ?_
            conv => whnf
            refine And.intro (by exact rfl) ?_
            conv => whnf
            refine And.intro (by decide) ?_
            refine ex_at (l := rS s) (i := 0) ?_ fun e he => ?_
            · omega
            · conv => whnf
              refine And.intro (by decide) ?_
              refine ex_at (l := rS s) (i := 1) ?_ fun t ht => ?_
              · omega
              · conv => whnf
                refine And.intro (by exact rfl) ?_
                conv => whnf
                refine And.intro (by decide) ?_
                refine ex_at (l := s) ?_ fun f hf => ?_
                · omega
                · conv => whnf
                  refine And.intro (by decide) ?_
                  conv => whnf
                  refine And.intro (by decide) ?_
                  conv => whnf
                  refine ⟨_, rest_good _, ?_⟩
                  conv => whnf
                  refine And.intro (fun hc5 => ?_) (fun hc5 => ?_)
                  · replace hc5 := of_decide_eq_true (Bool.not_eq_false' _ |>.mp hc5)
                    conv => whnf
                    refine br_l rfl rfl ?_
                    conv => whnf
                    refine ⟨_, (pright_q hf he ht), ?_⟩
                    conv => whnf
                    refine br_l rfl rfl ?_
                    conv => whnf
                    refine br_r rfl rfl ?_
                    conv => whnf
                    refine And.intro (fun hc6 => ?_) (fun hc6 => ?_)
                    · replace hc6 := of_decide_eq_false (Bool.not_eq_true' _ |>.mp hc6)
                      (exfalso; omega)
                    · replace hc6 := of_decide_eq_true (Bool.not_eq_false' _ |>.mp hc6)
                      conv => whnf
                      refine AV.of_eqv ?_
                      conv => whnf
                      refine And.intro (by (exact y_f hf)) ?_
                      conv => whnf
                      refine And.intro (by exact rfl) ?_
                      conv => whnf
                      refine And.intro (by exact rfl) ?_
                      conv => whnf
                      refine And.intro (by exact rfl) ?_
                      conv => whnf
                      refine And.intro (by exact rfl) ?_
                      conv => whnf
                      refine And.intro (by (rw [y_e he]; exact quo16 hq)) ?_
                      conv => whnf
                      refine And.intro (by (rw [y_e he]; exact rem16 hq.1)) ?_
                      conv => whnf
                      refine And.intro (by (exact y_t ht)) ?_
                      conv => whnf
                      refine And.intro (by exact rfl) ?_
                      conv => whnf
                      refine And.intro (by with_reducible rfl) ?_
                      exact True.intro
                  · replace hc5 := of_decide_eq_false (Bool.not_eq_true' _ |>.mp hc5)
                    (exact absurd (if_pos ho.1) (by assumption))
    · rw [show prd s = (zP, 3) by unfold prd; rw [if_neg hl, if_pos hu, if_neg ho]]
      have lr := len_r hl
      apply good_at ak48 rfl rfl rfl
      conv => whnf
      refine And.intro (fun hc0 => ?_) (fun hc0 => ?_)
      · replace hc0 := of_decide_eq_true hc0
        (exfalso; omega)
      · replace hc0 := of_decide_eq_false hc0
        conv => whnf
        refine And.intro (by decide) ?_
        refine And.intro (by omega) ?_
        refine And.intro (by omega) ?_
        conv => whnf
        refine ⟨_, unblob_s, ?_⟩
        conv => whnf
        refine And.intro (fun hc1 => ?_) (fun hc1 => ?_)
        · replace hc1 := of_decide_eq_false (Bool.not_eq_true' _ |>.mp hc1)
          contradiction
        · replace hc1 := of_decide_eq_true (Bool.not_eq_false' _ |>.mp hc1)
          conv => whnf
          refine And.intro (by decide) ?_
          refine And.intro (by decide) ?_
          refine And.intro (by omega) ?_
          conv => whnf
          refine ⟨_, eread_q ?_, ?_⟩
          · assumption
          · conv => whnf
            refine br_r rfl rfl ?_
            conv => whnf
            refine And.intro (by exact rfl) ?_
            conv => whnf
            refine And.intro (by decide) ?_
            refine ex_at (l := rS s) (i := 0) ?_ fun e he => ?_
            · omega
            · conv => whnf
              refine And.intro (by decide) ?_
              refine ex_at (l := rS s) (i := 1) ?_ fun t ht => ?_
              · omega
              · conv => whnf
                refine And.intro (by exact rfl) ?_
                conv => whnf
                refine And.intro (by decide) ?_
                refine ex_at (l := s) ?_ fun f hf => ?_
                · omega
                · conv => whnf
                  refine And.intro (by decide) ?_
                  conv => whnf
                  refine And.intro (by decide) ?_
                  conv => whnf
                  refine ⟨_, rest_good _, ?_⟩
                  conv => whnf
                  refine And.intro (fun hc5 => ?_) (fun hc5 => ?_)
                  · replace hc5 := of_decide_eq_true (Bool.not_eq_false' _ |>.mp hc5)
                    conv => whnf
                    refine br_l rfl rfl ?_
                    conv => whnf
                    refine ⟨_, (pright_q hf he ht), ?_⟩
                    conv => whnf
                    refine br_l rfl rfl ?_
                    conv => whnf
                    refine br_r rfl rfl ?_
                    conv => whnf
                    refine And.intro (fun hc6 => ?_) (fun hc6 => ?_)
                    · replace hc6 := of_decide_eq_false (Bool.not_eq_true' _ |>.mp hc6)
                      conv => whnf
                      refine AV.of_eqv ?_
                      conv => whnf
                      refine And.intro (by decide) ?_
                      conv => whnf
                      refine And.intro (by decide) ?_
                      conv => whnf
                      refine And.intro (by decide) ?_
                      conv => whnf
                      refine And.intro (by decide) ?_
                      conv => whnf
                      refine And.intro (by decide) ?_
                      conv => whnf
                      refine And.intro (by decide) ?_
                      conv => whnf
                      refine And.intro (by decide) ?_
                      conv => whnf
                      refine And.intro (by decide) ?_
                      conv => whnf
                      refine And.intro (by decide) ?_
                      conv => whnf
                      refine And.intro (by with_reducible rfl) ?_
                      exact True.intro
                    · replace hc6 := of_decide_eq_true (Bool.not_eq_false' _ |>.mp hc6)
                      (exact absurd ⟨if3 (by assumption), (by assumption)⟩ ho)
                  · replace hc5 := of_decide_eq_false (Bool.not_eq_true' _ |>.mp hc5)
                    conv => whnf
                    refine br_r rfl rfl ?_
                    conv => whnf
                    refine br_r rfl rfl ?_
                    conv => whnf
                    refine br_l rfl rfl ?_
                    conv => whnf
                    refine br_l rfl rfl ?_
                    conv => whnf
                    refine AV.of_eqv ?_
                    conv => whnf
                    refine And.intro (by decide) ?_
                    conv => whnf
                    refine And.intro (by decide) ?_
                    conv => whnf
                    refine And.intro (by decide) ?_
                    conv => whnf
                    refine And.intro (by decide) ?_
                    conv => whnf
                    refine And.intro (by decide) ?_
                    conv => whnf
                    refine And.intro (by decide) ?_
                    conv => whnf
                    refine And.intro (by decide) ?_
                    conv => whnf
                    refine And.intro (by decide) ?_
                    conv => whnf
                    refine And.intro (by decide) ?_
                    conv => whnf
                    refine And.intro (by with_reducible rfl) ?_
                    exact True.intro
  · rw [show prd s = (zP, (uS s).2.2) by unfold prd; rw [if_neg hl, if_neg hu]]
    apply good_at ak48 rfl rfl rfl
    conv => whnf
    refine And.intro (fun hc0 => ?_) (fun hc0 => ?_)
    · replace hc0 := of_decide_eq_true hc0
      (exfalso; omega)
    · replace hc0 := of_decide_eq_false hc0
      conv => whnf
      refine And.intro (by decide) ?_
      refine And.intro (by omega) ?_
      refine And.intro (by omega) ?_
      conv => whnf
      refine ⟨_, unblob_s, ?_⟩
      conv => whnf
      refine And.intro (fun hc1 => ?_) (fun hc1 => ?_)
      · replace hc1 := of_decide_eq_false (Bool.not_eq_true' _ |>.mp hc1)
        conv => whnf
        refine AV.of_eqv ?_
        conv => whnf
        refine And.intro (by exact rfl) ?_
        conv => whnf
        refine And.intro (by exact rfl) ?_
        conv => whnf
        refine And.intro (by exact rfl) ?_
        conv => whnf
        refine And.intro (by exact rfl) ?_
        conv => whnf
        refine And.intro (by exact rfl) ?_
        conv => whnf
        refine And.intro (by exact rfl) ?_
        conv => whnf
        refine And.intro (by exact rfl) ?_
        conv => whnf
        refine And.intro (by exact rfl) ?_
        conv => whnf
        refine And.intro (by exact rfl) ?_
        conv => whnf
        refine And.intro (by with_reducible rfl) ?_
        exact True.intro
      · replace hc1 := of_decide_eq_true (Bool.not_eq_false' _ |>.mp hc1)
        contradiction
theorem hopped_no {f a b c d s t x : Int} {B : By} (g p q r u : Int) (h : x ≤ 1) : Good Try.prog 113 [eQ f a b c d s t x B, .int .i64 g, eP p q r u] (eQ 0 0 0 0 0 0 0 0 []) := by
  apply good_at ak113 rfl rfl rfl
  conv => whnf
  refine And.intro (fun hc0 => ?_) (fun hc0 => ?_)
  · replace hc0 := of_decide_eq_true hc0
    conv => whnf
    refine AV.of_eqv ?_
    conv => whnf
    refine And.intro (by with_reducible rfl) ?_
    conv => whnf
    refine And.intro (by with_reducible rfl) ?_
    conv => whnf
    refine And.intro (by with_reducible rfl) ?_
    conv => whnf
    refine And.intro (by with_reducible rfl) ?_
    conv => whnf
    refine And.intro (by with_reducible rfl) ?_
    conv => whnf
    refine And.intro (by with_reducible rfl) ?_
    conv => whnf
    refine And.intro (by with_reducible rfl) ?_
    conv => whnf
    refine And.intro (by with_reducible rfl) ?_
    conv => whnf
    refine And.intro (by with_reducible rfl) ?_
    exact True.intro
  · replace hc0 := of_decide_eq_false hc0
    contradiction
theorem hopped_yes {f a b c d s t x : Int} {B : By} (g p q r u : Int) (h : ¬ x ≤ 1) : Good Try.prog 113 [eQ f a b c d s t x B, .int .i64 g, eP p q r u] (eQ g p q r u s t (IntKind.i64.wrap (x - 1)) B) := by
  apply good_at ak113 rfl rfl rfl
  conv => whnf
  refine And.intro (fun hc0 => ?_) (fun hc0 => ?_)
  · replace hc0 := of_decide_eq_true hc0
    contradiction
  · replace hc0 := of_decide_eq_false hc0
    conv => whnf
    refine And.intro (by exact rfl) ?_
    conv => whnf
    refine AV.of_eqv ?_
    conv => whnf
    refine And.intro (by with_reducible rfl) ?_
    conv => whnf
    refine And.intro (by with_reducible rfl) ?_
    conv => whnf
    refine And.intro (by with_reducible rfl) ?_
    conv => whnf
    refine And.intro (by with_reducible rfl) ?_
    conv => whnf
    refine And.intro (by with_reducible rfl) ?_
    conv => whnf
    refine And.intro (by with_reducible rfl) ?_
    conv => whnf
    refine And.intro (by with_reducible rfl) ?_
    conv => whnf
    refine And.intro (by with_reducible rfl) ?_
    conv => whnf
    refine And.intro (by with_reducible rfl) ?_
    exact True.intro
theorem hop_no {f a b c d s t x : Int} {B : By} (g p q r u : Int) (h : x ≤ 1) : Good Try.prog 49 [eQ f a b c d s t x B, .int .i64 g, eP p q r u] (.tuple [eQ 0 0 0 0 0 0 0 0 [], .bool false]) := by
  apply good_at ak49 rfl rfl rfl
  conv => whnf
  refine ⟨_, hopped_no _ _ _ _ _ ?_, ?_⟩
  · assumption
  · conv => whnf
    refine And.intro (by exact rfl) ?_
    conv => whnf
    refine AV.of_eqv ?_
    conv => whnf
    refine And.intro (by with_reducible rfl) ?_
    conv => whnf
    refine And.intro (by with_reducible rfl) ?_
    conv => whnf
    refine And.intro (by with_reducible rfl) ?_
    conv => whnf
    refine And.intro (by with_reducible rfl) ?_
    conv => whnf
    refine And.intro (by with_reducible rfl) ?_
    conv => whnf
    refine And.intro (by with_reducible rfl) ?_
    conv => whnf
    refine And.intro (by with_reducible rfl) ?_
    conv => whnf
    refine And.intro (by with_reducible rfl) ?_
    conv => whnf
    refine And.intro (by with_reducible rfl) ?_
    conv => whnf
    refine And.intro (by decide) ?_
    exact True.intro
theorem hop_yes {f a b c d s t x : Int} {B : By} (g p q r u : Int) (h : ¬ x ≤ 1) (h2 : x ≤ 9223372036854775807) : Good Try.prog 49 [eQ f a b c d s t x B, .int .i64 g, eP p q r u] (.tuple [eQ g p q r u s t (x - 1) B, .bool true]) := by
  have e : IntKind.i64.wrap (x - 1) = x - 1 := by rw [wrap_i64]; omega
  apply good_at ak49 rfl rfl rfl
  conv => whnf
  refine ⟨_, hopped_yes _ _ _ _ _ ?_, ?_⟩
  · assumption
  · conv => whnf
    refine And.intro (by exact rfl) ?_
    conv => whnf
    refine AV.of_eqv ?_
    conv => whnf
    refine And.intro (by with_reducible rfl) ?_
    conv => whnf
    refine And.intro (by with_reducible rfl) ?_
    conv => whnf
    refine And.intro (by with_reducible rfl) ?_
    conv => whnf
    refine And.intro (by with_reducible rfl) ?_
    conv => whnf
    refine And.intro (by with_reducible rfl) ?_
    conv => whnf
    refine And.intro (by with_reducible rfl) ?_
    conv => whnf
    refine And.intro (by with_reducible rfl) ?_
    conv => whnf
    refine And.intro (by assumption) ?_
    conv => whnf
    refine And.intro (by with_reducible rfl) ?_
    conv => whnf
    refine And.intro (by (rw [e, decide_eq_false (show ¬ x - 1 = 0 by omega)]; simp; done)) ?_
    exact True.intro
end Go.Proofs.Ytkcdeefnkbbacaa

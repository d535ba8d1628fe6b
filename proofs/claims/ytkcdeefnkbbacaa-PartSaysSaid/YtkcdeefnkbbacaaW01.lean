/- Numbers and pairs in bytes: the contracts of the program's and of the document's functions. -/
import Derived.Test.YtkcdeefnkbbacaaAwN
import Derived.Test.YtkcdeefnkbbacaaPairRs
set_option maxRecDepth 100000
set_option linter.unusedSimpArgs false
set_option linter.unusedVariables false
namespace Go.Proofs.Ytkcdeefnkbbacaa
open Go.RowKit
set_option maxHeartbeats 4000000
abbrev By := List UInt8
/-- the k lowest bytes of a number -/
def nb (x : Int) (k : Nat) : By := numB x.toNat k
theorem nb_len (x : Int) (k : Nat) : (nb x k).length = k := numB_length _ _
theorem args1 {I : Cells} {w : World} {a : AV} {vs : List Value} (h : ArgsR I w [a] vs) : ∃ v, vs = [v] ∧ Rd I w a v := by
  obtain ⟨hl, h⟩ := h
  match vs, hl with
  | [v], _ => exact ⟨v, rfl, h 0 _ _ rfl rfl⟩
theorem args2 {I : Cells} {w : World} {a b : AV} {vs : List Value} (h : ArgsR I w [a, b] vs) : ∃ u v, vs = [u, v] ∧ Rd I w a u ∧ Rd I w b v := by
  obtain ⟨hl, h⟩ := h
  match vs, hl with
  | [u, v], _ => exact ⟨u, v, rfl, h 0 _ _ rfl rfl, h 1 _ _ rfl rfl⟩
theorem rdv_int {I : Cells} {w : World} {k : IntKind} {n : Int} {v : Value} (h : Rd I w (.int k n) v) : v = .int k n := by cases h; rfl
theorem rdv_str {I : Cells} {w : World} {s : By} {v : Value} (h : Rd I w (.str s) v) : v = .string (str s) ∧ s.length ≤ maxLen := by cases h; exact ⟨rfl, ‹_›⟩
theorem rdv_agg4 {I : Cells} {w : World} {a b c d : Int} {v : Value} (h : Rd I w (.agg [.int .u32 a, .int .u32 b, .int .u32 c, .int .u32 d]) v) : v = .agg #[.int .u32 a, .int .u32 b, .int .u32 c, .int .u32 d] := by
  cases h with
  | agg cs vs hl h1 h =>
    match vs, hl with
    | [p, q, r, s], _ =>
      obtain rfl := rdv_int (h 0 _ _ rfl rfl)
      obtain rfl := rdv_int (h 1 _ _ rfl rfl)
      obtain rfl := rdv_int (h 2 _ _ rfl rfl)
      obtain rfl := rdv_int (h 3 _ _ rfl rfl)
      rfl
theorem rd_int (I : Cells) (w : World) (k : IntKind) (n : Int) : Rd I w (.int k n) (.int k n) := .int k n
theorem rd_agg4 (I : Cells) (w : World) (a b c d : Int) : Rd I w (.agg [.int .u32 a, .int .u32 b, .int .u32 c, .int .u32 d]) (.agg #[.int .u32 a, .int .u32 b, .int .u32 c, .int .u32 d]) := by
  refine .agg _ [.int .u32 a, .int .u32 b, .int .u32 c, .int .u32 d] rfl (by intro v hv; simp at hv; rcases hv with rfl | rfl | rfl | rfl <;> rfl) fun k c v hc hv => ?_
  match k with
  | 0 => cases hc; cases hv; exact .int _ _
  | 1 => cases hc; cases hv; exact .int _ _
  | 2 => cases hc; cases hv; exact .int _ _
  | 3 => cases hc; cases hv; exact .int _ _
  | k + 4 => cases hc
/-- a result that holds no address -/
theorem res_rd {g : Gh} {w : World} {a : AV} {v : Value} (h : Rd g.I w a v) (h1 : ∀ es xs, a ≠ .sl .own es xs) (h2 : ∀ vs, a ≠ .tuple vs) : ResR g w a v := by
  cases a with
  | tuple vs => exact absurd rfl (h2 vs)
  | _ => exact LocR.of_rd h h1
theorem res_tup {g : Gh} {w : World} {al : List AV} {us : List Value} (hl : us.length = al.length) (h : ∀ (j : Nat) c u, al[j]? = some c → us[j]? = some u → Rd g.I w c u ∧ ∀ es xs, c ≠ .sl .own es xs) : ResR g w (.tuple al) (.tuple us.toArray) :=
  ⟨us, rfl, hl, fun j c u hc hu => LocR.of_rd (h j c u hc hu).1 (h j c u hc hu).2⟩
theorem res_tup2 {g : Gh} {w : World} {a b : AV} {u v : Value} (h1 : Rd g.I w a u) (h2 : Rd g.I w b v) (n1 : ∀ es xs, a ≠ .sl .own es xs) (n2 : ∀ es xs, b ≠ .sl .own es xs) : ResR g w (.tuple [a, b]) (.tuple #[u, v]) :=
  res_tup (us := [u, v]) rfl fun j c x hc hx => by
    match j with
    | 0 => cases hc; cases hx; exact ⟨h1, n1⟩
    | 1 => cases hc; cases hx; exact ⟨h2, n2⟩
    | j + 2 => cases hc
theorem res_tup3 {g : Gh} {w : World} {a b c : AV} {u v x : Value} (h1 : Rd g.I w a u) (h2 : Rd g.I w b v) (h3 : Rd g.I w c x) (n1 : ∀ es xs, a ≠ .sl .own es xs) (n2 : ∀ es xs, b ≠ .sl .own es xs) (n3 : ∀ es xs, c ≠ .sl .own es xs) : ResR g w (.tuple [a, b, c]) (.tuple #[u, v, x]) :=
  res_tup (us := [u, v, x]) rfl fun j d y hd hy => by
    match j with
    | 0 => cases hd; cases hy; exact ⟨h1, n1⟩
    | 1 => cases hd; cases hy; exact ⟨h2, n2⟩
    | 2 => cases hd; cases hy; exact ⟨h3, n3⟩
    | j + 3 => cases hd
theorem num_good (x : Int) (k : Int) (c : Nat) (h0 : 0 ≤ x) (h1 : x ≤ 18446744073709551615) (hk : k = c) (hc : c ≤ 8) : Good Try.prog 100 [.int .u64 x, .int .i64 k] (.str (nb x c)) := by
  refine .of_calls (u := .string (str (nb x c))) (fun g w => res_rd (.str _ (by rw [nb_len]; unfold maxLen; omega)) (by simp) (by simp)) fun w I vs h => ?_
  obtain ⟨u, v, rfl, hu, hv⟩ := args2 h
  obtain rfl := rdv_int hu
  obtain rfl := rdv_int hv
  exact num_int x h0 h1 k c hk hc w
theorem take_good (l : By) (k : Int) : Good Try.prog 82 [.str l, .int .i64 k] (.tuple [.int .u64 ((takeOf l k).1 : Nat), .str (takeOf l k).2.1, .int .i64 (takeOf l k).2.2]) := by
  refine .assume fun hf => ?_
  have hm : l.length ≤ maxLen := (hf _ (by simp)).str
  have ht : (takeOf l k).2.1.length ≤ maxLen := by
    unfold takeOf
    split
    · simp [maxLen]
    · split
      · simp [maxLen]
      · simp; omega
  refine .of_calls (u := .tuple #[.int .u64 ((takeOf l k).1 : Nat), .string (str (takeOf l k).2.1), .int .i64 (takeOf l k).2.2]) (fun g w => res_tup3 (rd_int _ _ _ _) (.str _ ht) (rd_int _ _ _ _) (by simp) (by simp) (by simp)) fun w I vs h => ?_
  obtain ⟨u, v, rfl, hu, hv⟩ := args2 h
  obtain ⟨rfl, _⟩ := rdv_str hu
  obtain rfl := rdv_int hv
  exact take_any l k hm w
theorem rest_good (l : By) : Good Try.prog 84 [.str l] (.int .i64 (if l = [] then 0 else 3)) := by
  refine .assume fun hf => ?_
  have hm : l.length ≤ maxLen := (hf _ (by simp)).str
  refine .of_calls (u := .int .i64 (if l = [] then 0 else 3)) (fun g w => res_rd (rd_int _ _ _ _) (by simp) (by simp)) fun w I vs h => ?_
  obtain ⟨u, rfl, hu⟩ := args1 h
  obtain ⟨rfl, _⟩ := rdv_str hu
  exact rest_any l hm w
theorem blob_good (l : By) (hl : l.length ≤ 1000000) : Good Try.prog 111 [.str l] (.tuple [.str (blobOf l).1, .int .i64 (blobOf l).2]) := by
  have hb : (blobOf l).1.length ≤ maxLen := by
    unfold blobOf
    split
    · simp [maxLen]
    · simp [numB_length, maxLen]; omega
  refine .of_calls (u := .tuple #[.string (str (blobOf l).1), .int .i64 (blobOf l).2]) (fun g w => res_tup2 (.str _ hb) (rd_int _ _ _ _) (by simp) (by simp)) fun w I vs h => ?_
  obtain ⟨u, rfl, hu⟩ := args1 h
  obtain ⟨rfl, _⟩ := rdv_str hu
  exact blob_any l (by unfold maxLen; omega) w
theorem unblob_good (l : By) : Good Try.prog 112 [.str l] (.tuple [.str (unblobOf l).1, .str (unblobOf l).2.1, .int .i64 (unblobOf l).2.2]) := by
  refine .assume fun hf => ?_
  have hm : l.length ≤ maxLen := (hf _ (by simp)).str
  have hb : (unblobOf l).1.length ≤ maxLen ∧ (unblobOf l).2.1.length ≤ maxLen := by
    cases l with
    | nil => simp [unblobOf, maxLen]
    | cons x r =>
      simp only [List.length_cons] at hm
      show (if r.length < x.toNat then _ else _ : By × By × Int).1.length ≤ _ ∧ (if r.length < x.toNat then _ else _ : By × By × Int).2.1.length ≤ _
      split
      · simp [maxLen]
      · simp; omega
  refine .of_calls (u := .tuple #[.string (str (unblobOf l).1), .string (str (unblobOf l).2.1), .int .i64 (unblobOf l).2.2]) (fun g w => res_tup3 (.str _ hb.1) (.str _ hb.2) (rd_int _ _ _ _) (by simp) (by simp) (by simp)) fun w I vs h => ?_
  obtain ⟨u, rfl, hu⟩ := args1 h
  obtain ⟨rfl, _⟩ := rdv_str hu
  exact unblob_any l hm w
abbrev u32b (a : Int) : Prop := 0 ≤ a ∧ a ≤ 4294967295
def pb (a b c d : Int) : By := pairB a.toNat b.toNat c.toNat d.toNat
theorem pb_len (a b c d : Int) : (pb a b c d).length = 16 := pairB_length _ _ _ _
theorem toNat_id {a : Int} (h : 0 ≤ a) : ((a.toNat : Nat) : Int) = a := Int.toNat_of_nonneg h
theorem ebytes_good (a b c d : Int) (ha : u32b a) (hb : u32b b) (hc : u32b c) (hd : u32b d) : Good Try.prog 79 [.agg [.int .u32 a, .int .u32 b, .int .u32 c, .int .u32 d]] (.str (pb a b c d)) := by
  refine .of_calls (u := .string (str (pb a b c d))) (fun g w => res_rd (.str _ (by rw [pb_len]; unfold maxLen; omega)) (by simp) (by simp)) fun w I vs h => ?_
  obtain ⟨u, rfl, hu⟩ := args1 h
  obtain rfl := rdv_agg4 hu
  have := pair_bytes a.toNat b.toNat c.toNat d.toNat (by unfold u32b at ha; omega) (by unfold u32b at hb; omega) (by unfold u32b at hc; omega) (by unfold u32b at hd; omega) w
  rw [toNat_id ha.1, toNat_id hb.1, toNat_id hc.1, toNat_id hd.1] at this
  exact this
def q4 (l : By) (k : Nat) : Int := ((quad l k : Nat) : Int)
theorem q4_b (l : By) (k : Nat) : u32b (q4 l k) := by
  have := quad_le l k
  unfold u32b q4
  omega
abbrev eP (a b c d : Int) : AV := .agg [.int .u32 a, .int .u32 b, .int .u32 c, .int .u32 d]
theorem eread_short (l : By) (hl : l.length < 16) : Good Try.prog 83 [.str l] (.tuple [eP 0 0 0 0, .str [], .int .i64 2]) := by
  refine .of_calls (u := .tuple #[noPair, .string (str []), .int .i64 2]) (fun g w => res_tup3 (rd_agg4 _ _ 0 0 0 0) (.str _ (by simp [maxLen])) (rd_int _ _ _ _) (by simp) (by simp) (by simp)) fun w I vs h => ?_
  obtain ⟨u, rfl, hu⟩ := args1 h
  obtain ⟨rfl, _⟩ := rdv_str hu
  exact pair_short l hl w
theorem eread_ok (l : By) (hl : 16 ≤ l.length) : Good Try.prog 83 [.str l] (.tuple [eP (q4 l 0) (q4 l 1) (q4 l 2) (q4 l 3), .str (l.drop 16), .int .i64 0]) := by
  refine .assume fun hf => ?_
  have hm : l.length ≤ maxLen := (hf _ (by simp)).str
  refine .of_calls (u := .tuple #[pairOf l, .string (str (l.drop 16)), .int .i64 0]) (fun g w => res_tup3 (rd_agg4 _ _ _ _ _ _) (.str _ (by simp; omega)) (rd_int _ _ _ _) (by simp) (by simp) (by simp)) fun w I vs h => ?_
  obtain ⟨u, rfl, hu⟩ := args1 h
  obtain ⟨rfl, _⟩ := rdv_str hu
  exact pair_read l hl hm w
end Go.Proofs.Ytkcdeefnkbbacaa

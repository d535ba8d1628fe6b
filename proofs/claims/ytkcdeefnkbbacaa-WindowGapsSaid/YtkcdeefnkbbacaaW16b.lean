/- Windows: Take. -/
import Derived.Test.YtkcdeefnkbbacaaW16
set_option maxRecDepth 100000
set_option linter.unusedSimpArgs false
set_option linter.unusedVariables false
namespace Go.Proofs.Ytkcdeefnkbbacaa
open Go.RowKit
set_option maxHeartbeats 4000000
/-- the numbers from n on that follow one another, and the rest -/
def runL : Int → List Int → List Int × List Int
  | _, [] => ([], [])
  | n, x :: r => if x = n then (x :: (runL (n + 1) r).1, (runL (n + 1) r).2) else ([], x :: r)
def takeI (n : Int) (l : List Int) (p : Int) : Int × List Int × List Int × Int :=
  if ¬ (0 ≤ p ∧ p ≤ 65535 ∧ 0 ≤ n ∧ n ≤ 65535) then (n, l, [], 1)
  else if p < n then (n, l, [], 6)
  else if ¬ p < n + 8 then (n, l, [], 8)
  else if p ∈ l then (n, l, [], 6)
  else (n + (runL n (putI l p)).1.length, (runL n (putI l p)).2, (runL n (putI l p)).1, 0)
theorem take_arg {n : Int} {l : List Int} {p : Int} (h : ¬ (0 ≤ p ∧ p ≤ 65535 ∧ 0 ≤ n ∧ n ≤ 65535)) : takeI n l p = (n, l, [], 1) := if_pos h
theorem take_old {n : Int} {l : List Int} {p : Int} (h : 0 ≤ p ∧ p ≤ 65535 ∧ 0 ≤ n ∧ n ≤ 65535) (h2 : p < n) : takeI n l p = (n, l, [], 6) := by
  unfold takeI; rw [if_neg (fun hh => hh h), if_pos h2]
theorem take_full {n : Int} {l : List Int} {p : Int} (h : 0 ≤ p ∧ p ≤ 65535 ∧ 0 ≤ n ∧ n ≤ 65535) (h2 : ¬ p < n) (h3 : ¬ p < n + 8) : takeI n l p = (n, l, [], 8) := by
  unfold takeI; rw [if_neg (fun hh => hh h), if_neg h2, if_pos h3]
theorem take_dup {n : Int} {l : List Int} {p : Int} (h : 0 ≤ p ∧ p ≤ 65535 ∧ 0 ≤ n ∧ n ≤ 65535) (h2 : ¬ p < n) (h3 : p < n + 8) (h4 : p ∈ l) : takeI n l p = (n, l, [], 6) := by
  unfold takeI; rw [if_neg (fun hh => hh h), if_neg h2, if_neg (fun hh => hh h3), if_pos h4]
theorem take_new {n : Int} {l : List Int} {p : Int} (h : 0 ≤ p ∧ p ≤ 65535 ∧ 0 ≤ n ∧ n ≤ 65535) (h2 : ¬ p < n) (h3 : p < n + 8) (h4 : ¬ p ∈ l) : takeI n l p = (n + (runL n (putI l p)).1.length, (runL n (putI l p)).2, (runL n (putI l p)).1, 0) := by
  unfold takeI; rw [if_neg (fun hh => hh h), if_neg h2, if_neg (fun hh => hh h3), if_neg h4]
abbrev tkR (r : Int × List Int × List Int × Int) : AV := .tuple [eW r.1 r.2.1, .sl .own 8 (r.2.2.1.map pn), .int .i64 r.2.2.2]
/-- so far all followed one another -/
def RunAt (n : Int) (L : List Int) (i : Nat) : Prop := i ≤ L.length ∧ runL n L = (L.take i ++ (runL (n + i) (L.drop i)).1, (runL (n + i) (L.drop i)).2)
theorem RunAt.zero (n : Int) (L : List Int) : RunAt n L 0 := ⟨Nat.zero_le _, by simp⟩
theorem RunAt.step {n : Int} {L : List Int} {i : Nat} {x : Int} (h : RunAt n L i) (hx : L[i]? = some x) (he : x = n + i) : RunAt n L (i + 1) := by
  refine ⟨lt_at hx, ?_⟩
  have h2 := h.2
  rw [drop_at hx, runL, if_pos he] at h2
  rw [h2, take_at hx, List.append_assoc, show n + (((i + 1 : Nat)) : Int) = n + i + 1 by omega]; rfl
theorem RunAt.stop {n : Int} {L : List Int} {i : Nat} {x : Int} (h : RunAt n L i) (hx : L[i]? = some x) (he : ¬ x = n + i) : runL n L = (L.take i, L.drop i) := by
  have h2 := h.2
  rw [drop_at hx, runL, if_neg he] at h2
  rw [h2, List.append_nil, drop_at hx]
theorem RunAt.fin {n : Int} {L : List Int} {i : Nat} (h : RunAt n L i) (hi : ¬ i < L.length) : runL n L = (L, []) := by
  have h2 := h.2
  rw [List.drop_of_length_le (by omega)] at h2
  rw [h2, show runL (n + i) [] = ([], []) from rfl, take_end hi, List.append_nil]
theorem putI_len (l : List Int) (p : Int) : (putI l p).length = l.length + 1 := by
  unfold putI
  have := congrArg List.length (List.take_append_drop (plc l p) l)
  rw [List.length_append] at this
  rw [List.length_append, List.length_cons]; omega
theorem own_pn (x : Int) : Good Try.prog 123 [.agg (pn x)] (ePn x) := own_good x
theorem sub_pn {L : List Int} {i : Nat} : List.drop (Int.toNat (i : Int)) (List.take (Int.toNat ((L.map pn).length : Int)) (L.map pn)) = (L.drop i).map pn := by
  rw [Int.toNat_natCast, Int.toNat_natCast, List.take_length, List.map_drop]
theorem tk_new {n : Int} {l : List Int} {p : Int} (hl : l.length ≤ 1000) (h : 0 ≤ p ∧ p ≤ 65535 ∧ 0 ≤ n ∧ n ≤ 65535) (h2 : ¬ p < n) (h3 : p < n + 8) (h4 : ¬ p ∈ l) : Good Try.prog 61 [eW n l, ePn p] (tkR (takeI n l p)) := by
  have hL := putI_len l p
  rw [take_new h h2 h3 h4]
  apply good_at ak61 rfl rfl rfl
  conv => whnf
  refine ⟨_, prn_good _, ?_⟩
  conv => whnf
  refine And.intro (fun hc0 => ?_) (fun hc0 => ?_)
  · replace hc0 := of_decide_eq_false (Bool.not_eq_true' _ |>.mp hc0)
    (exfalso; omega)
  · replace hc0 := of_decide_eq_true (Bool.not_eq_false' _ |>.mp hc0)
    conv => whnf
    refine ⟨_, sright_good _, ?_⟩
    conv => whnf
    refine And.intro (fun hc1 => ?_) (fun hc1 => ?_)
    · replace hc1 := of_decide_eq_false (Bool.not_eq_true' _ |>.mp hc1)
      (exfalso; omega)
    · replace hc1 := of_decide_eq_true (Bool.not_eq_false' _ |>.mp hc1)
      conv => whnf
      refine And.intro (fun hc2 => ?_) (fun hc2 => ?_)
      · replace hc2 := of_decide_eq_true hc2
        contradiction
      · replace hc2 := of_decide_eq_false hc2
        conv => whnf
        refine ⟨_, snear_good _ _, ?_⟩
        conv => whnf
        refine And.intro (fun hc3 => ?_) (fun hc3 => ?_)
        · replace hc3 := of_decide_eq_false (Bool.not_eq_true' _ |>.mp hc3)
          (exfalso; omega)
        · replace hc3 := of_decide_eq_true (Bool.not_eq_false' _ |>.mp hc3)
          conv => whnf
          refine And.intro (by exact rfl) ?_
          conv => whnf
          refine ⟨_, seqs_pn _ _ ?_, ?_⟩
          · omega
          · conv => whnf
            refine ⟨_, (containsI_good l p) ?_, ?_⟩
            · omega
            · conv => whnf
              refine And.intro (fun hc4 => ?_) (fun hc4 => ?_)
              · replace hc4 := of_decide_eq_true hc4
                contradiction
              · replace hc4 := of_decide_eq_false hc4
                conv => whnf
                refine ⟨_, (put_good l p) ?_, ?_⟩
                · omega
                · conv => whnf
                  refine loop_at (α := Nat) [] (fun i => [(54, .int .i64 (i : Int)), (9, .sl .own 8 ((List.take i (putI l p)).map pn))]) (fun i => [(3, some ⟨true, 2, [[.int .i64 (n + (i : Int)), .sl .own 8 []]]⟩)]) (fun i => RunAt n (putI l p) i) (fun i => (putI l p).length - i) (0) (st_of ?_) ?_ (by rintro i _; rfl) ?_
                  · conv => whnf
                    refine And.intro (by with_reducible rfl) ?_
                    conv => whnf
                    refine And.intro (by with_reducible rfl) ?_
                    conv => whnf
                    refine And.intro (by with_reducible rfl) ?_
                    conv => whnf
                    refine And.intro (by with_reducible rfl) ?_
                    conv => whnf
                    refine And.intro (by with_reducible rfl) ?_
                    conv => whnf
                    refine And.intro (by with_reducible rfl) ?_
                    conv => whnf
                    refine And.intro (by with_reducible rfl) ?_
                    conv => whnf
                    refine And.intro (by with_reducible rfl) ?_
                    conv => whnf
                    refine And.intro (by with_reducible rfl) ?_
                    conv => whnf
                    refine And.intro (by with_reducible rfl) ?_
                    conv => whnf
                    refine And.intro (by with_reducible rfl) ?_
                    refine And.intro (by with_reducible rfl) ?_
                    conv => whnf
                    refine And.intro (by with_reducible rfl) ?_
                    refine And.intro (by with_reducible rfl) ?_
                    conv => whnf
                    refine And.intro (by with_reducible rfl) ?_
                    refine And.intro (by with_reducible rfl) ?_
                    conv => whnf
                    refine And.intro (by with_reducible rfl) ?_
                    conv => whnf
                    refine And.intro (by with_reducible rfl) ?_
                    conv => whnf
                    refine And.intro (by with_reducible rfl) ?_
                    conv => whnf
                    refine And.intro (by with_reducible rfl) ?_
                    refine And.intro (by with_reducible rfl) ?_
                    conv => whnf
                    refine And.intro (by (simp; done)) ?_
                    conv => whnf
                    refine And.intro (by with_reducible rfl) ?_
                    conv => whnf
                    refine And.intro (by with_reducible rfl) ?_
                    conv => whnf
                    refine And.intro (by with_reducible rfl) ?_
                    conv => whnf
                    refine And.intro (by with_reducible rfl) ?_
                    conv => whnf
                    refine And.intro (by with_reducible rfl) ?_
                    conv => whnf
                    refine And.intro (by with_reducible rfl) ?_
                    conv => whnf
                    refine And.intro (by with_reducible rfl) ?_
                    conv => whnf
                    refine And.intro (by with_reducible rfl) ?_
                    conv => whnf
                    refine And.intro (by with_reducible rfl) ?_
                    conv => whnf
                    refine And.intro (by with_reducible rfl) ?_
                    conv => whnf
                    refine And.intro (by with_reducible rfl) ?_
                    conv => whnf
                    refine And.intro (by with_reducible rfl) ?_
                    refine And.intro (by with_reducible rfl) ?_
                    conv => whnf
                    refine And.intro (by with_reducible rfl) ?_
                    conv => whnf
                    refine And.intro (by with_reducible rfl) ?_
                    conv => whnf
                    refine And.intro (by with_reducible rfl) ?_
                    conv => whnf
                    refine And.intro (by with_reducible rfl) ?_
                    conv => whnf
                    refine And.intro (by with_reducible rfl) ?_
                    refine And.intro (by with_reducible rfl) ?_
                    conv => whnf
                    refine And.intro (by with_reducible rfl) ?_
                    conv => whnf
                    refine And.intro (by with_reducible rfl) ?_
                    refine And.intro (by with_reducible rfl) ?_
                    conv => whnf
                    refine And.intro (by with_reducible rfl) ?_
                    conv => whnf
                    refine And.intro (by with_reducible rfl) ?_
                    conv => whnf
                    refine And.intro (by with_reducible rfl) ?_
                    conv => whnf
                    refine And.intro (by with_reducible rfl) ?_
                    refine And.intro (by with_reducible rfl) ?_
                    conv => whnf
                    refine And.intro (by with_reducible rfl) ?_
                    conv => whnf
                    refine And.intro (by with_reducible rfl) ?_
                    refine And.intro (by with_reducible rfl) ?_
                    conv => whnf
                    refine And.intro (by with_reducible rfl) ?_
                    conv => whnf
                    refine And.intro (by with_reducible rfl) ?_
                    conv => whnf
                    refine And.intro (by with_reducible rfl) ?_
                    conv => whnf
                    refine And.intro (by with_reducible rfl) ?_
                    conv => whnf
                    refine And.intro (by with_reducible rfl) ?_
                    conv => whnf
                    refine And.intro (by with_reducible rfl) ?_
                    conv => whnf
                    refine And.intro (by with_reducible rfl) ?_
                    conv => whnf
                    refine And.intro (by with_reducible rfl) ?_
                    refine And.intro (by with_reducible rfl) ?_
                    conv => whnf
                    refine And.intro (by with_reducible rfl) ?_
                    conv => whnf
                    refine And.intro (by with_reducible rfl) ?_
                    conv => whnf
                    refine And.intro (by with_reducible rfl) ?_
                    refine And.intro (by with_reducible rfl) ?_
                    conv => whnf
                    refine And.intro (by with_reducible rfl) ?_
                    conv => whnf
                    refine And.intro (by with_reducible rfl) ?_
                    conv => whnf
                    refine And.intro (by with_reducible rfl) ?_
                    conv => whnf
                    refine And.intro (by with_reducible rfl) ?_
                    conv => whnf
                    refine And.intro (by with_reducible rfl) ?_
                    conv => whnf
                    refine And.intro (by with_reducible rfl) ?_
                    conv => whnf
                    refine And.intro (by with_reducible rfl) ?_
                    conv => whnf
                    refine And.intro (by with_reducible rfl) ?_
                    conv => whnf
                    refine And.intro (by with_reducible rfl) ?_
                    conv => whnf
                    refine And.intro (by with_reducible rfl) ?_
                    conv => whnf
                    refine And.intro (by with_reducible rfl) ?_
                    refine And.intro (by with_reducible rfl) ?_
                    conv => whnf
                    refine And.intro (by with_reducible rfl) ?_
                    conv => whnf
                    refine And.intro (by with_reducible rfl) ?_
                    conv => whnf
                    refine And.intro (by with_reducible rfl) ?_
                    conv => whnf
                    refine And.intro (by with_reducible rfl) ?_
                    conv => whnf
                    refine And.intro (by with_reducible rfl) ?_
                    conv => whnf
                    refine And.intro (by decide) ?_
                    conv => whnf
                    refine And.intro (by with_reducible rfl) ?_
                    conv => whnf
                    refine And.intro (by with_reducible rfl) ?_
                    conv => whnf
                    refine And.intro (by with_reducible rfl) ?_
                    conv => whnf
                    refine And.intro (by with_reducible rfl) ?_
                    conv => whnf
                    refine And.intro (by with_reducible rfl) ?_
                    conv => whnf
                    refine And.intro (by with_reducible rfl) ?_
                    conv => whnf
                    refine And.intro (by with_reducible rfl) ?_
                    conv => whnf
                    refine And.intro (by with_reducible rfl) ?_
                    conv => whnf
                    refine And.intro (by with_reducible rfl) ?_
                    conv => whnf
                    refine And.intro (by with_reducible rfl) ?_
                    conv => whnf
                    refine And.intro (by with_reducible rfl) ?_
                    conv => whnf
                    refine And.intro (by with_reducible rfl) ?_
                    conv => whnf
                    refine And.intro (by omega) ?_
                    conv => whnf
                    refine And.intro (by with_reducible rfl) ?_
                    exact True.intro
                  · (exact .zero _ _)
                  · rintro i nextl0 hIl0 ihl0
                    try dsimp only at hIl0
                    conv => whnf
                    refine And.intro (fun hc5 => ?_) (fun hc5 => ?_)
                    · replace hc5 := of_decide_eq_true hc5
                      conv => whnf
                      refine And.intro (by omega) ?_
                      refine ex_row (l := putI l p) ?_ fun x hx => ?_
                      · (simp only [map_rows] at *; omega)
                      · simp only [toNat_ofNat] at hx
                        conv => whnf
                        refine And.intro (fun hc7 => ?_) (fun hc7 => ?_)
                        · replace hc7 := of_decide_eq_false (Bool.not_eq_true' _ |>.mp hc7)
                          conv => whnf
                          refine And.intro (by omega) ?_
                          refine And.intro (by omega) ?_
                          refine And.intro (by omega) ?_
                          conv => whnf
                          refine loop_at (α := Nat) [] (fun j => [(68, .int .i64 (j : Int)), (66, .sl .sh 8 ((List.drop i (putI l p)).map pn)), (67, .int .i64 ((List.drop i (putI l p)).length : Int))]) (fun j => [(3, some ⟨true, 2, [[.int .i64 (n + (i : Int)), .sl .own 8 ((List.take j (List.drop i (putI l p))).map pn)]]⟩)]) (fun j => j ≤ (List.drop i (putI l p)).length) (fun j => (List.drop i (putI l p)).length - j) (0) (st_of ?_) ?_ (by rintro j _; rfl) ?_
                          · conv => whnf
                            refine And.intro (by with_reducible rfl) ?_
                            conv => whnf
                            refine And.intro (by with_reducible rfl) ?_
                            conv => whnf
                            refine And.intro (by with_reducible rfl) ?_
                            conv => whnf
                            refine And.intro (by with_reducible rfl) ?_
                            conv => whnf
                            refine And.intro (by with_reducible rfl) ?_
                            conv => whnf
                            refine And.intro (by with_reducible rfl) ?_
                            conv => whnf
                            refine And.intro (by with_reducible rfl) ?_
                            conv => whnf
                            refine And.intro (by with_reducible rfl) ?_
                            conv => whnf
                            refine And.intro (by with_reducible rfl) ?_
                            conv => whnf
                            refine And.intro (by with_reducible rfl) ?_
                            conv => whnf
                            refine And.intro (by with_reducible rfl) ?_
                            refine And.intro (by with_reducible rfl) ?_
                            conv => whnf
                            refine And.intro (by with_reducible rfl) ?_
                            refine And.intro (by with_reducible rfl) ?_
                            conv => whnf
                            refine And.intro (by with_reducible rfl) ?_
                            refine And.intro (by with_reducible rfl) ?_
                            conv => whnf
                            refine And.intro (by with_reducible rfl) ?_
                            conv => whnf
                            refine And.intro (by with_reducible rfl) ?_
                            conv => whnf
                            refine And.intro (by with_reducible rfl) ?_
                            conv => whnf
                            refine And.intro (by with_reducible rfl) ?_
                            refine And.intro (by with_reducible rfl) ?_
                            conv => whnf
                            refine And.intro (by with_reducible rfl) ?_
                            conv => whnf
                            refine And.intro (by with_reducible rfl) ?_
                            conv => whnf
                            refine And.intro (by with_reducible rfl) ?_
                            refine And.intro (by with_reducible rfl) ?_
                            conv => whnf
                            refine And.intro (by with_reducible rfl) ?_
                            conv => whnf
                            refine And.intro (by with_reducible rfl) ?_
                            conv => whnf
                            refine And.intro (by with_reducible rfl) ?_
                            conv => whnf
                            refine And.intro (by with_reducible rfl) ?_
                            conv => whnf
                            refine And.intro (by with_reducible rfl) ?_
                            conv => whnf
                            refine And.intro (by with_reducible rfl) ?_
                            conv => whnf
                            refine And.intro (by with_reducible rfl) ?_
                            conv => whnf
                            refine And.intro (by with_reducible rfl) ?_
                            conv => whnf
                            refine And.intro (by with_reducible rfl) ?_
                            conv => whnf
                            refine And.intro (by with_reducible rfl) ?_
                            conv => whnf
                            refine And.intro (by with_reducible rfl) ?_
                            conv => whnf
                            refine And.intro (by with_reducible rfl) ?_
                            refine And.intro (by with_reducible rfl) ?_
                            conv => whnf
                            refine And.intro (by with_reducible rfl) ?_
                            conv => whnf
                            refine And.intro (by with_reducible rfl) ?_
                            conv => whnf
                            refine And.intro (by with_reducible rfl) ?_
                            conv => whnf
                            refine And.intro (by with_reducible rfl) ?_
                            conv => whnf
                            refine And.intro (by with_reducible rfl) ?_
                            refine And.intro (by with_reducible rfl) ?_
                            conv => whnf
                            refine And.intro (by with_reducible rfl) ?_
                            conv => whnf
                            refine And.intro (by with_reducible rfl) ?_
                            refine And.intro (by with_reducible rfl) ?_
                            conv => whnf
                            refine And.intro (by with_reducible rfl) ?_
                            conv => whnf
                            refine And.intro (by with_reducible rfl) ?_
                            conv => whnf
                            refine And.intro (by with_reducible rfl) ?_
                            conv => whnf
                            refine And.intro (by with_reducible rfl) ?_
                            refine And.intro (by with_reducible rfl) ?_
                            conv => whnf
                            refine And.intro (by with_reducible rfl) ?_
                            conv => whnf
                            refine And.intro (by with_reducible rfl) ?_
                            refine And.intro (by with_reducible rfl) ?_
                            conv => whnf
                            refine And.intro (by with_reducible rfl) ?_
                            conv => whnf
                            refine And.intro (by with_reducible rfl) ?_
                            conv => whnf
                            refine And.intro (by with_reducible rfl) ?_
                            conv => whnf
                            refine And.intro (by with_reducible rfl) ?_
                            conv => whnf
                            refine And.intro (by with_reducible rfl) ?_
                            conv => whnf
                            refine And.intro (by with_reducible rfl) ?_
                            conv => whnf
                            refine And.intro (by with_reducible rfl) ?_
                            conv => whnf
                            refine And.intro (by with_reducible rfl) ?_
                            refine And.intro (by with_reducible rfl) ?_
                            conv => whnf
                            refine And.intro (by with_reducible rfl) ?_
                            conv => whnf
                            refine And.intro (by with_reducible rfl) ?_
                            conv => whnf
                            refine And.intro (by with_reducible rfl) ?_
                            refine And.intro (by with_reducible rfl) ?_
                            conv => whnf
                            refine And.intro (by with_reducible rfl) ?_
                            conv => whnf
                            refine And.intro (by with_reducible rfl) ?_
                            conv => whnf
                            refine And.intro (by with_reducible rfl) ?_
                            conv => whnf
                            refine And.intro (by with_reducible rfl) ?_
                            conv => whnf
                            refine And.intro (by with_reducible rfl) ?_
                            conv => whnf
                            refine And.intro (by with_reducible rfl) ?_
                            conv => whnf
                            refine And.intro (by with_reducible rfl) ?_
                            conv => whnf
                            refine And.intro (by with_reducible rfl) ?_
                            conv => whnf
                            refine And.intro (by with_reducible rfl) ?_
                            conv => whnf
                            refine And.intro (by with_reducible rfl) ?_
                            conv => whnf
                            refine And.intro (by with_reducible rfl) ?_
                            refine And.intro (by with_reducible rfl) ?_
                            conv => whnf
                            refine And.intro (by with_reducible rfl) ?_
                            conv => whnf
                            refine And.intro (by with_reducible rfl) ?_
                            conv => whnf
                            refine And.intro (by with_reducible rfl) ?_
                            conv => whnf
                            refine And.intro (by with_reducible rfl) ?_
                            conv => whnf
                            refine And.intro (by with_reducible rfl) ?_
                            conv => whnf
                            refine And.intro (by with_reducible rfl) ?_
                            conv => whnf
                            refine And.intro (by with_reducible rfl) ?_
                            conv => whnf
                            refine And.intro (by with_reducible rfl) ?_
                            conv => whnf
                            refine And.intro (by with_reducible rfl) ?_
                            conv => whnf
                            refine And.intro (by with_reducible rfl) ?_
                            conv => whnf
                            refine And.intro (by with_reducible rfl) ?_
                            conv => whnf
                            refine And.intro (by with_reducible rfl) ?_
                            conv => whnf
                            refine And.intro (by with_reducible rfl) ?_
                            conv => whnf
                            refine And.intro (by with_reducible rfl) ?_
                            conv => whnf
                            refine And.intro (by with_reducible rfl) ?_
                            conv => whnf
                            refine And.intro (by with_reducible rfl) ?_
                            conv => whnf
                            refine And.intro (by with_reducible rfl) ?_
                            conv => whnf
                            refine And.intro (by with_reducible rfl) ?_
                            refine And.intro (by with_reducible rfl) ?_
                            conv => whnf
                            refine And.intro (by with_reducible rfl) ?_
                            conv => whnf
                            refine And.intro (by with_reducible rfl) ?_
                            refine And.intro (by with_reducible rfl) ?_
                            conv => whnf
                            refine And.intro (by with_reducible rfl) ?_
                            conv => whnf
                            refine And.intro (by with_reducible rfl) ?_
                            conv => whnf
                            refine And.intro (by with_reducible rfl) ?_
                            conv => whnf
                            refine And.intro (by with_reducible rfl) ?_
                            conv => whnf
                            refine And.intro (by (exact sub_pn)) ?_
                            conv => whnf
                            refine And.intro (by (have := hIl0.1; simp only [map_rows, maxLen_eq, wrap_i64, List.length_take, List.length_drop, List.length_cons, List.length_nil] at *; omega)) ?_
                            conv => whnf
                            refine And.intro (by decide) ?_
                            conv => whnf
                            refine And.intro (by with_reducible rfl) ?_
                            conv => whnf
                            refine And.intro (by with_reducible rfl) ?_
                            conv => whnf
                            refine And.intro (by with_reducible rfl) ?_
                            conv => whnf
                            refine And.intro (by with_reducible rfl) ?_
                            conv => whnf
                            refine And.intro (by with_reducible rfl) ?_
                            conv => whnf
                            refine And.intro (by with_reducible rfl) ?_
                            conv => whnf
                            refine And.intro (by with_reducible rfl) ?_
                            conv => whnf
                            refine And.intro (by with_reducible rfl) ?_
                            conv => whnf
                            refine And.intro (by with_reducible rfl) ?_
                            conv => whnf
                            refine And.intro (by with_reducible rfl) ?_
                            conv => whnf
                            refine And.intro (by with_reducible rfl) ?_
                            conv => whnf
                            refine And.intro (by with_reducible rfl) ?_
                            conv => whnf
                            refine And.intro (by with_reducible rfl) ?_
                            conv => whnf
                            refine And.intro (by (simp; done)) ?_
                            conv => whnf
                            refine And.intro (by with_reducible rfl) ?_
                            conv => whnf
                            refine And.intro (by with_reducible rfl) ?_
                            conv => whnf
                            refine And.intro (by with_reducible rfl) ?_
                            conv => whnf
                            refine And.intro (by with_reducible rfl) ?_
                            conv => whnf
                            refine And.intro (by with_reducible rfl) ?_
                            conv => whnf
                            refine And.intro (by with_reducible rfl) ?_
                            conv => whnf
                            refine And.intro (by with_reducible rfl) ?_
                            conv => whnf
                            refine And.intro (by with_reducible rfl) ?_
                            exact True.intro
                          · omega
                          · rintro j nextl1 hIl1 ihl1
                            try dsimp only at hIl1
                            conv => whnf
                            refine And.intro (fun hc8 => ?_) (fun hc8 => ?_)
                            · replace hc8 := of_decide_eq_true hc8
                              conv => whnf
                              refine And.intro (by omega) ?_
                              refine ex_row (l := List.drop i (putI l p)) ?_ fun y hy => ?_
                              · omega
                              · simp only [toNat_ofNat] at hy
                                conv => whnf
                                refine And.intro (by exact rfl) ?_
                                conv => whnf
                                refine ⟨_, (own_good y), ?_⟩
                                conv => whnf
                                refine And.intro (by (simp; done)) ?_
                                refine And.intro (by (have := hIl0.1; simp only [map_rows, maxLen_eq, wrap_i64, List.length_take, List.length_drop, List.length_cons, List.length_nil] at *; omega)) ?_
                                refine And.intro (by (have := hIl0.1; simp only [map_rows, maxLen_eq, wrap_i64, List.length_take, List.length_drop, List.length_cons, List.length_nil] at *; omega)) ?_
                                conv => whnf
                                refine ihl1 (j + 1) _ ?_ ?_ (st_of ?_)
                                · omega
                                · omega
                                · conv => whnf
                                  refine And.intro (by with_reducible rfl) ?_
                                  conv => whnf
                                  refine And.intro (by with_reducible rfl) ?_
                                  conv => whnf
                                  refine And.intro (by with_reducible rfl) ?_
                                  conv => whnf
                                  refine And.intro (by with_reducible rfl) ?_
                                  conv => whnf
                                  refine And.intro (by with_reducible rfl) ?_
                                  conv => whnf
                                  refine And.intro (by with_reducible rfl) ?_
                                  conv => whnf
                                  refine And.intro (by with_reducible rfl) ?_
                                  conv => whnf
                                  refine And.intro (by with_reducible rfl) ?_
                                  conv => whnf
                                  refine And.intro (by with_reducible rfl) ?_
                                  conv => whnf
                                  refine And.intro (by with_reducible rfl) ?_
                                  conv => whnf
                                  refine And.intro (by with_reducible rfl) ?_
                                  refine And.intro (by with_reducible rfl) ?_
                                  conv => whnf
                                  refine And.intro (by with_reducible rfl) ?_
                                  refine And.intro (by with_reducible rfl) ?_
                                  conv => whnf
                                  refine And.intro (by with_reducible rfl) ?_
                                  refine And.intro (by with_reducible rfl) ?_
                                  conv => whnf
                                  refine And.intro (by with_reducible rfl) ?_
                                  conv => whnf
                                  refine And.intro (by with_reducible rfl) ?_
                                  conv => whnf
                                  refine And.intro (by with_reducible rfl) ?_
                                  conv => whnf
                                  refine And.intro (by with_reducible rfl) ?_
                                  refine And.intro (by with_reducible rfl) ?_
                                  conv => whnf
                                  refine And.intro (by with_reducible rfl) ?_
                                  conv => whnf
                                  refine And.intro (by with_reducible rfl) ?_
                                  conv => whnf
                                  refine And.intro (by with_reducible rfl) ?_
                                  refine And.intro (by with_reducible rfl) ?_
                                  conv => whnf
                                  refine And.intro (by with_reducible rfl) ?_
                                  conv => whnf
                                  refine And.intro (by with_reducible rfl) ?_
                                  conv => whnf
                                  refine And.intro (by with_reducible rfl) ?_
                                  conv => whnf
                                  refine And.intro (by with_reducible rfl) ?_
                                  conv => whnf
                                  refine And.intro (by with_reducible rfl) ?_
                                  conv => whnf
                                  refine And.intro (by with_reducible rfl) ?_
                                  conv => whnf
                                  refine And.intro (by with_reducible rfl) ?_
                                  conv => whnf
                                  refine And.intro (by with_reducible rfl) ?_
                                  conv => whnf
                                  refine And.intro (by with_reducible rfl) ?_
                                  conv => whnf
                                  refine And.intro (by with_reducible rfl) ?_
                                  conv => whnf
                                  refine And.intro (by with_reducible rfl) ?_
                                  conv => whnf
                                  refine And.intro (by with_reducible rfl) ?_
                                  refine And.intro (by with_reducible rfl) ?_
                                  conv => whnf
                                  refine And.intro (by with_reducible rfl) ?_
                                  conv => whnf
                                  refine And.intro (by with_reducible rfl) ?_
                                  conv => whnf
                                  refine And.intro (by with_reducible rfl) ?_
                                  conv => whnf
                                  refine And.intro (by with_reducible rfl) ?_
                                  conv => whnf
                                  refine And.intro (by with_reducible rfl) ?_
                                  refine And.intro (by with_reducible rfl) ?_
                                  conv => whnf
                                  refine And.intro (by with_reducible rfl) ?_
                                  conv => whnf
                                  refine And.intro (by with_reducible rfl) ?_
                                  refine And.intro (by with_reducible rfl) ?_
                                  conv => whnf
                                  refine And.intro (by with_reducible rfl) ?_
                                  conv => whnf
                                  refine And.intro (by with_reducible rfl) ?_
                                  conv => whnf
                                  refine And.intro (by with_reducible rfl) ?_
                                  conv => whnf
                                  refine And.intro (by with_reducible rfl) ?_
                                  refine And.intro (by with_reducible rfl) ?_
                                  conv => whnf
                                  refine And.intro (by with_reducible rfl) ?_
                                  conv => whnf
                                  refine And.intro (by with_reducible rfl) ?_
                                  refine And.intro (by with_reducible rfl) ?_
                                  conv => whnf
                                  refine And.intro (by with_reducible rfl) ?_
                                  conv => whnf
                                  refine And.intro (by with_reducible rfl) ?_
                                  conv => whnf
                                  refine And.intro (by with_reducible rfl) ?_
                                  conv => whnf
                                  refine And.intro (by with_reducible rfl) ?_
                                  conv => whnf
                                  refine And.intro (by with_reducible rfl) ?_
                                  conv => whnf
                                  refine And.intro (by with_reducible rfl) ?_
                                  conv => whnf
                                  refine And.intro (by with_reducible rfl) ?_
                                  conv => whnf
                                  refine And.intro (by with_reducible rfl) ?_
                                  refine And.intro (by with_reducible rfl) ?_
                                  conv => whnf
                                  refine And.intro (by with_reducible rfl) ?_
                                  conv => whnf
                                  refine And.intro (by with_reducible rfl) ?_
                                  conv => whnf
                                  refine And.intro (by with_reducible rfl) ?_
                                  refine And.intro (by with_reducible rfl) ?_
                                  conv => whnf
                                  refine And.intro (by with_reducible rfl) ?_
                                  conv => whnf
                                  refine And.intro (by with_reducible rfl) ?_
                                  conv => whnf
                                  refine And.intro (by with_reducible rfl) ?_
                                  conv => whnf
                                  refine And.intro (by with_reducible rfl) ?_
                                  conv => whnf
                                  refine And.intro (by with_reducible rfl) ?_
                                  conv => whnf
                                  refine And.intro (by with_reducible rfl) ?_
                                  conv => whnf
                                  refine And.intro (by with_reducible rfl) ?_
                                  conv => whnf
                                  refine And.intro (by with_reducible rfl) ?_
                                  conv => whnf
                                  refine And.intro (by with_reducible rfl) ?_
                                  conv => whnf
                                  refine And.intro (by with_reducible rfl) ?_
                                  conv => whnf
                                  refine And.intro (by with_reducible rfl) ?_
                                  refine And.intro (by with_reducible rfl) ?_
                                  conv => whnf
                                  refine And.intro (by with_reducible rfl) ?_
                                  conv => whnf
                                  refine And.intro (by with_reducible rfl) ?_
                                  conv => whnf
                                  refine And.intro (by with_reducible rfl) ?_
                                  conv => whnf
                                  refine And.intro (by with_reducible rfl) ?_
                                  conv => whnf
                                  refine And.intro (by with_reducible rfl) ?_
                                  conv => whnf
                                  refine And.intro (by with_reducible rfl) ?_
                                  conv => whnf
                                  refine And.intro (by with_reducible rfl) ?_
                                  conv => whnf
                                  refine And.intro (by with_reducible rfl) ?_
                                  conv => whnf
                                  refine And.intro (by with_reducible rfl) ?_
                                  conv => whnf
                                  refine And.intro (by with_reducible rfl) ?_
                                  conv => whnf
                                  refine And.intro (by with_reducible rfl) ?_
                                  conv => whnf
                                  refine And.intro (by with_reducible rfl) ?_
                                  conv => whnf
                                  refine And.intro (by with_reducible rfl) ?_
                                  conv => whnf
                                  refine And.intro (by with_reducible rfl) ?_
                                  conv => whnf
                                  refine And.intro (by with_reducible rfl) ?_
                                  conv => whnf
                                  refine And.intro (by with_reducible rfl) ?_
                                  conv => whnf
                                  refine And.intro (by with_reducible rfl) ?_
                                  conv => whnf
                                  refine And.intro (by with_reducible rfl) ?_
                                  refine And.intro (by with_reducible rfl) ?_
                                  conv => whnf
                                  refine And.intro (by with_reducible rfl) ?_
                                  conv => whnf
                                  refine And.intro (by with_reducible rfl) ?_
                                  refine And.intro (by with_reducible rfl) ?_
                                  conv => whnf
                                  refine And.intro (by with_reducible rfl) ?_
                                  conv => whnf
                                  refine And.intro (by with_reducible rfl) ?_
                                  conv => whnf
                                  refine And.intro (by with_reducible rfl) ?_
                                  conv => whnf
                                  refine And.intro (by with_reducible rfl) ?_
                                  conv => whnf
                                  refine And.intro (by with_reducible rfl) ?_
                                  conv => whnf
                                  refine And.intro (by with_reducible rfl) ?_
                                  conv => whnf
                                  refine And.intro (by (have := hIl0.1; simp only [map_rows, maxLen_eq, wrap_i64, List.length_take, List.length_drop, List.length_cons, List.length_nil] at *; omega)) ?_
                                  conv => whnf
                                  refine And.intro (by with_reducible rfl) ?_
                                  conv => whnf
                                  refine And.intro (by with_reducible rfl) ?_
                                  conv => whnf
                                  refine And.intro (by with_reducible rfl) ?_
                                  conv => whnf
                                  refine And.intro (by with_reducible rfl) ?_
                                  conv => whnf
                                  refine And.intro (by with_reducible rfl) ?_
                                  conv => whnf
                                  refine And.intro (by with_reducible rfl) ?_
                                  conv => whnf
                                  refine And.intro (by with_reducible rfl) ?_
                                  conv => whnf
                                  refine And.intro (by with_reducible rfl) ?_
                                  conv => whnf
                                  refine And.intro (by with_reducible rfl) ?_
                                  conv => whnf
                                  refine And.intro (by with_reducible rfl) ?_
                                  conv => whnf
                                  refine And.intro (by with_reducible rfl) ?_
                                  conv => whnf
                                  refine And.intro (by with_reducible rfl) ?_
                                  conv => whnf
                                  refine And.intro (by with_reducible rfl) ?_
                                  conv => whnf
                                  refine And.intro (by (rw [map_at _ hy]; rfl)) ?_
                                  conv => whnf
                                  refine And.intro (by with_reducible rfl) ?_
                                  conv => whnf
                                  refine And.intro (by with_reducible rfl) ?_
                                  conv => whnf
                                  refine And.intro (by with_reducible rfl) ?_
                                  conv => whnf
                                  refine And.intro (by with_reducible rfl) ?_
                                  conv => whnf
                                  refine And.intro (by with_reducible rfl) ?_
                                  conv => whnf
                                  refine And.intro (by with_reducible rfl) ?_
                                  conv => whnf
                                  refine And.intro (by with_reducible rfl) ?_
                                  conv => whnf
                                  refine And.intro (by with_reducible rfl) ?_
                                  exact True.intro
                            · replace hc8 := of_decide_eq_false hc8
                              conv => whnf
                              refine AV.of_eqv ?_
                              conv => whnf
                              refine And.intro (by (rw [hIl0.stop hx (by assumption)]; dsimp only; rw [List.length_take]; have := lt_at hx; omega)) ?_
                              conv => whnf
                              refine And.intro (by (rw [List.take_of_length_le (by omega), hIl0.stop hx (by assumption)])) ?_
                              conv => whnf
                              refine And.intro (by (rw [hIl0.stop hx (by assumption)])) ?_
                              conv => whnf
                              refine And.intro (by with_reducible rfl) ?_
                              exact True.intro
                        · replace hc7 := of_decide_eq_true (Bool.not_eq_false' _ |>.mp hc7)
                          conv => whnf
                          refine ⟨_, (own_good x), ?_⟩
                          conv => whnf
                          refine And.intro (by (simp; done)) ?_
                          refine And.intro (by (have := hIl0.1; simp only [map_rows, maxLen_eq, wrap_i64, List.length_take, List.length_drop, List.length_cons, List.length_nil] at *; omega)) ?_
                          refine And.intro (by (have := hIl0.1; simp only [map_rows, maxLen_eq, wrap_i64, List.length_take, List.length_drop, List.length_cons, List.length_nil] at *; omega)) ?_
                          conv => whnf
                          refine ihl0 (i + 1) _ ?_ ?_ (st_of ?_)
                          · (exact hIl0.step hx (by assumption))
                          · (simp only [map_rows] at *; omega)
                          · conv => whnf
                            refine And.intro (by with_reducible rfl) ?_
                            conv => whnf
                            refine And.intro (by with_reducible rfl) ?_
                            conv => whnf
                            refine And.intro (by with_reducible rfl) ?_
                            conv => whnf
                            refine And.intro (by with_reducible rfl) ?_
                            conv => whnf
                            refine And.intro (by with_reducible rfl) ?_
                            conv => whnf
                            refine And.intro (by with_reducible rfl) ?_
                            conv => whnf
                            refine And.intro (by with_reducible rfl) ?_
                            conv => whnf
                            refine And.intro (by with_reducible rfl) ?_
                            conv => whnf
                            refine And.intro (by with_reducible rfl) ?_
                            conv => whnf
                            refine And.intro (by with_reducible rfl) ?_
                            conv => whnf
                            refine And.intro (by with_reducible rfl) ?_
                            refine And.intro (by with_reducible rfl) ?_
                            conv => whnf
                            refine And.intro (by with_reducible rfl) ?_
                            refine And.intro (by with_reducible rfl) ?_
                            conv => whnf
                            refine And.intro (by with_reducible rfl) ?_
                            refine And.intro (by with_reducible rfl) ?_
                            conv => whnf
                            refine And.intro (by with_reducible rfl) ?_
                            conv => whnf
                            refine And.intro (by with_reducible rfl) ?_
                            conv => whnf
                            refine And.intro (by with_reducible rfl) ?_
                            conv => whnf
                            refine And.intro (by with_reducible rfl) ?_
                            refine And.intro (by with_reducible rfl) ?_
                            conv => whnf
                            refine And.intro (by (rw [map_at _ hx]; rfl)) ?_
                            conv => whnf
                            refine And.intro (by with_reducible rfl) ?_
                            conv => whnf
                            refine And.intro (by with_reducible rfl) ?_
                            conv => whnf
                            refine And.intro (by with_reducible rfl) ?_
                            conv => whnf
                            refine And.intro (by with_reducible rfl) ?_
                            conv => whnf
                            refine And.intro (by with_reducible rfl) ?_
                            conv => whnf
                            refine And.intro (by with_reducible rfl) ?_
                            conv => whnf
                            refine And.intro (by with_reducible rfl) ?_
                            conv => whnf
                            refine And.intro (by with_reducible rfl) ?_
                            conv => whnf
                            refine And.intro (by with_reducible rfl) ?_
                            conv => whnf
                            refine And.intro (by with_reducible rfl) ?_
                            conv => whnf
                            refine And.intro (by with_reducible rfl) ?_
                            conv => whnf
                            refine And.intro (by with_reducible rfl) ?_
                            refine And.intro (by with_reducible rfl) ?_
                            conv => whnf
                            refine And.intro (by with_reducible rfl) ?_
                            conv => whnf
                            refine And.intro (by with_reducible rfl) ?_
                            conv => whnf
                            refine And.intro (by with_reducible rfl) ?_
                            conv => whnf
                            refine And.intro (by with_reducible rfl) ?_
                            conv => whnf
                            refine And.intro (by with_reducible rfl) ?_
                            refine And.intro (by with_reducible rfl) ?_
                            conv => whnf
                            refine And.intro (by with_reducible rfl) ?_
                            conv => whnf
                            refine And.intro (by with_reducible rfl) ?_
                            refine And.intro (by with_reducible rfl) ?_
                            conv => whnf
                            refine And.intro (by with_reducible rfl) ?_
                            conv => whnf
                            refine And.intro (by with_reducible rfl) ?_
                            conv => whnf
                            refine And.intro (by with_reducible rfl) ?_
                            conv => whnf
                            refine And.intro (by with_reducible rfl) ?_
                            refine And.intro (by with_reducible rfl) ?_
                            conv => whnf
                            refine And.intro (by with_reducible rfl) ?_
                            conv => whnf
                            refine And.intro (by with_reducible rfl) ?_
                            refine And.intro (by with_reducible rfl) ?_
                            conv => whnf
                            refine And.intro (by with_reducible rfl) ?_
                            conv => whnf
                            refine And.intro (by with_reducible rfl) ?_
                            conv => whnf
                            refine And.intro (by with_reducible rfl) ?_
                            conv => whnf
                            refine And.intro (by with_reducible rfl) ?_
                            conv => whnf
                            refine And.intro (by with_reducible rfl) ?_
                            conv => whnf
                            refine And.intro (by with_reducible rfl) ?_
                            conv => whnf
                            refine And.intro (by with_reducible rfl) ?_
                            conv => whnf
                            refine And.intro (by with_reducible rfl) ?_
                            refine And.intro (by with_reducible rfl) ?_
                            conv => whnf
                            refine And.intro (by with_reducible rfl) ?_
                            conv => whnf
                            refine And.intro (by with_reducible rfl) ?_
                            conv => whnf
                            refine And.intro (by with_reducible rfl) ?_
                            refine And.intro (by with_reducible rfl) ?_
                            conv => whnf
                            refine And.intro (by with_reducible rfl) ?_
                            conv => whnf
                            refine And.intro (by with_reducible rfl) ?_
                            conv => whnf
                            refine And.intro (by with_reducible rfl) ?_
                            conv => whnf
                            refine And.intro (by with_reducible rfl) ?_
                            conv => whnf
                            refine And.intro (by with_reducible rfl) ?_
                            conv => whnf
                            refine And.intro (by with_reducible rfl) ?_
                            conv => whnf
                            refine And.intro (by with_reducible rfl) ?_
                            conv => whnf
                            refine And.intro (by with_reducible rfl) ?_
                            conv => whnf
                            refine And.intro (by with_reducible rfl) ?_
                            conv => whnf
                            refine And.intro (by with_reducible rfl) ?_
                            conv => whnf
                            refine And.intro (by with_reducible rfl) ?_
                            refine And.intro (by with_reducible rfl) ?_
                            conv => whnf
                            refine And.intro (by with_reducible rfl) ?_
                            conv => whnf
                            refine And.intro (by with_reducible rfl) ?_
                            conv => whnf
                            refine And.intro (by with_reducible rfl) ?_
                            conv => whnf
                            refine And.intro (by with_reducible rfl) ?_
                            conv => whnf
                            refine And.intro (by with_reducible rfl) ?_
                            conv => whnf
                            refine And.intro (by (have := hIl0.1; simp only [map_rows, maxLen_eq, wrap_i64, List.length_take, List.length_drop, List.length_cons, List.length_nil] at *; omega)) ?_
                            conv => whnf
                            refine And.intro (by with_reducible rfl) ?_
                            conv => whnf
                            refine And.intro (by with_reducible rfl) ?_
                            conv => whnf
                            refine And.intro (by with_reducible rfl) ?_
                            conv => whnf
                            refine And.intro (by with_reducible rfl) ?_
                            conv => whnf
                            refine And.intro (by with_reducible rfl) ?_
                            conv => whnf
                            refine And.intro (by with_reducible rfl) ?_
                            conv => whnf
                            refine And.intro (by with_reducible rfl) ?_
                            conv => whnf
                            refine And.intro (by with_reducible rfl) ?_
                            conv => whnf
                            refine And.intro (by with_reducible rfl) ?_
                            conv => whnf
                            refine And.intro (by with_reducible rfl) ?_
                            conv => whnf
                            refine And.intro (by with_reducible rfl) ?_
                            conv => whnf
                            refine And.intro (by with_reducible rfl) ?_
                            conv => whnf
                            refine And.intro (by (have := hIl0.1; simp only [map_rows, maxLen_eq, wrap_i64, List.length_take, List.length_drop, List.length_cons, List.length_nil] at *; omega)) ?_
                            conv => whnf
                            refine And.intro (by with_reducible rfl) ?_
                            exact True.intro
                    · replace hc5 := of_decide_eq_false hc5
                      conv => whnf
                      refine AV.of_eqv ?_
                      conv => whnf
                      refine And.intro (by (rw [hIl0.fin (by simp only [map_rows] at *; omega)]; dsimp only; have := hIl0.1; simp only [map_rows] at *; omega)) ?_
                      conv => whnf
                      refine And.intro (by (rw [hIl0.fin (by simp only [map_rows] at *; omega)]; rfl)) ?_
                      conv => whnf
                      refine And.intro (by (rw [take_end (by simp only [map_rows] at *; omega), hIl0.fin (by simp only [map_rows] at *; omega)])) ?_
                      conv => whnf
                      refine And.intro (by with_reducible rfl) ?_
                      exact True.intro
theorem wtake_good (n : Int) (l : List Int) (p : Int) (hl : l.length ≤ 1000) : Good Try.prog 61 [eW n l, ePn p] (tkR (takeI n l p)) := by
  by_cases h : 0 ≤ p ∧ p ≤ 65535 ∧ 0 ≤ n ∧ n ≤ 65535
  · by_cases h2 : p < n
    · rw [take_old h h2]
      apply good_at ak61 rfl rfl rfl
      conv => whnf
      refine ⟨_, prn_good _, ?_⟩
      conv => whnf
      refine And.intro (fun hc0 => ?_) (fun hc0 => ?_)
      · replace hc0 := of_decide_eq_false (Bool.not_eq_true' _ |>.mp hc0)
        (exfalso; omega)
      · replace hc0 := of_decide_eq_true (Bool.not_eq_false' _ |>.mp hc0)
        conv => whnf
        refine ⟨_, sright_good _, ?_⟩
        conv => whnf
        refine And.intro (fun hc1 => ?_) (fun hc1 => ?_)
        · replace hc1 := of_decide_eq_false (Bool.not_eq_true' _ |>.mp hc1)
          (exfalso; omega)
        · replace hc1 := of_decide_eq_true (Bool.not_eq_false' _ |>.mp hc1)
          conv => whnf
          refine And.intro (fun hc2 => ?_) (fun hc2 => ?_)
          · replace hc2 := of_decide_eq_true hc2
            conv => whnf
            refine AV.of_eqv ?_
            conv => whnf
            refine And.intro (by with_reducible rfl) ?_
            conv => whnf
            refine And.intro (by with_reducible rfl) ?_
            conv => whnf
            refine And.intro (by (simp; done)) ?_
            conv => whnf
            refine And.intro (by with_reducible rfl) ?_
            exact True.intro
          · replace hc2 := of_decide_eq_false hc2
            contradiction
    · by_cases h3 : p < n + 8
      · by_cases h4 : p ∈ l
        · rw [take_dup h h2 h3 h4]
          apply good_at ak61 rfl rfl rfl
          conv => whnf
          refine ⟨_, prn_good _, ?_⟩
          conv => whnf
          refine And.intro (fun hc0 => ?_) (fun hc0 => ?_)
          · replace hc0 := of_decide_eq_false (Bool.not_eq_true' _ |>.mp hc0)
            (exfalso; omega)
          · replace hc0 := of_decide_eq_true (Bool.not_eq_false' _ |>.mp hc0)
            conv => whnf
            refine ⟨_, sright_good _, ?_⟩
            conv => whnf
            refine And.intro (fun hc1 => ?_) (fun hc1 => ?_)
            · replace hc1 := of_decide_eq_false (Bool.not_eq_true' _ |>.mp hc1)
              (exfalso; omega)
            · replace hc1 := of_decide_eq_true (Bool.not_eq_false' _ |>.mp hc1)
              conv => whnf
              refine And.intro (fun hc2 => ?_) (fun hc2 => ?_)
              · replace hc2 := of_decide_eq_true hc2
                contradiction
              · replace hc2 := of_decide_eq_false hc2
                conv => whnf
                refine ⟨_, snear_good _ _, ?_⟩
                conv => whnf
                refine And.intro (fun hc3 => ?_) (fun hc3 => ?_)
                · replace hc3 := of_decide_eq_false (Bool.not_eq_true' _ |>.mp hc3)
                  (exfalso; omega)
                · replace hc3 := of_decide_eq_true (Bool.not_eq_false' _ |>.mp hc3)
                  conv => whnf
                  refine And.intro (by exact rfl) ?_
                  conv => whnf
                  refine ⟨_, seqs_pn _ _ ?_, ?_⟩
                  · omega
                  · conv => whnf
                    refine ⟨_, (containsI_good l p) ?_, ?_⟩
                    · omega
                    · conv => whnf
                      refine And.intro (fun hc4 => ?_) (fun hc4 => ?_)
                      · replace hc4 := of_decide_eq_true hc4
                        conv => whnf
                        refine AV.of_eqv ?_
                        conv => whnf
                        refine And.intro (by with_reducible rfl) ?_
                        conv => whnf
                        refine And.intro (by with_reducible rfl) ?_
                        conv => whnf
                        refine And.intro (by (simp; done)) ?_
                        conv => whnf
                        refine And.intro (by with_reducible rfl) ?_
                        exact True.intro
                      · replace hc4 := of_decide_eq_false hc4
                        contradiction
        · exact tk_new hl h h2 h3 h4
      · rw [take_full h h2 h3]
        apply good_at ak61 rfl rfl rfl
        conv => whnf
        refine ⟨_, prn_good _, ?_⟩
        conv => whnf
        refine And.intro (fun hc0 => ?_) (fun hc0 => ?_)
        · replace hc0 := of_decide_eq_false (Bool.not_eq_true' _ |>.mp hc0)
          (exfalso; omega)
        · replace hc0 := of_decide_eq_true (Bool.not_eq_false' _ |>.mp hc0)
          conv => whnf
          refine ⟨_, sright_good _, ?_⟩
          conv => whnf
          refine And.intro (fun hc1 => ?_) (fun hc1 => ?_)
          · replace hc1 := of_decide_eq_false (Bool.not_eq_true' _ |>.mp hc1)
            (exfalso; omega)
          · replace hc1 := of_decide_eq_true (Bool.not_eq_false' _ |>.mp hc1)
            conv => whnf
            refine And.intro (fun hc2 => ?_) (fun hc2 => ?_)
            · replace hc2 := of_decide_eq_true hc2
              contradiction
            · replace hc2 := of_decide_eq_false hc2
              conv => whnf
              refine ⟨_, snear_good _ _, ?_⟩
              conv => whnf
              refine And.intro (fun hc3 => ?_) (fun hc3 => ?_)
              · replace hc3 := of_decide_eq_false (Bool.not_eq_true' _ |>.mp hc3)
                conv => whnf
                refine AV.of_eqv ?_
                conv => whnf
                refine And.intro (by with_reducible rfl) ?_
                conv => whnf
                refine And.intro (by with_reducible rfl) ?_
                conv => whnf
                refine And.intro (by (simp; done)) ?_
                conv => whnf
                refine And.intro (by with_reducible rfl) ?_
                exact True.intro
              · replace hc3 := of_decide_eq_true (Bool.not_eq_false' _ |>.mp hc3)
                (exfalso; omega)
  · rw [take_arg h]
    apply good_at ak61 rfl rfl rfl
    conv => whnf
    refine ⟨_, prn_good _, ?_⟩
    conv => whnf
    refine And.intro (fun hc0 => ?_) (fun hc0 => ?_)
    · replace hc0 := of_decide_eq_false (Bool.not_eq_true' _ |>.mp hc0)
      conv => whnf
      refine br_l rfl rfl ?_
      conv => whnf
      refine AV.of_eqv ?_
      conv => whnf
      refine And.intro (by with_reducible rfl) ?_
      conv => whnf
      refine And.intro (by with_reducible rfl) ?_
      conv => whnf
      refine And.intro (by (simp; done)) ?_
      conv => whnf
      refine And.intro (by with_reducible rfl) ?_
      exact True.intro
    · replace hc0 := of_decide_eq_true (Bool.not_eq_false' _ |>.mp hc0)
      conv => whnf
      refine ⟨_, sright_good _, ?_⟩
      conv => whnf
      refine And.intro (fun hc1 => ?_) (fun hc1 => ?_)
      · replace hc1 := of_decide_eq_false (Bool.not_eq_true' _ |>.mp hc1)
        conv => whnf
        refine AV.of_eqv ?_
        conv => whnf
        refine And.intro (by with_reducible rfl) ?_
        conv => whnf
        refine And.intro (by with_reducible rfl) ?_
        conv => whnf
        refine And.intro (by (simp; done)) ?_
        conv => whnf
        refine And.intro (by with_reducible rfl) ?_
        exact True.intro
      · replace hc1 := of_decide_eq_true (Bool.not_eq_false' _ |>.mp hc1)
        (exfalso; omega)
end Go.Proofs.Ytkcdeefnkbbacaa

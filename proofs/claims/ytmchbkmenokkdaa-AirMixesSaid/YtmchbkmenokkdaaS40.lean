/- What the laws of chapter 40 call. -/
import Derived.Test.YtmchbkmenokkdaaS40c
set_option maxRecDepth 100000
set_option linter.unusedSimpArgs false
set_option linter.unusedVariables false
namespace Go.Proofs.Ytmchbkmenokkdaa
open Go.RowKit
set_option maxHeartbeats 4000000
abbrev Fl := Int × Int × List UInt8
def fl (x : Fl) : List AV := [.int .i64 x.1, .int .i64 x.2.1, .str x.2.2]
abbrev eF (x : Fl) : AV := .agg [.int .i64 x.1, .int .i64 x.2.1, .str x.2.2]
theorem most_good : Good Try.prog 67 [] (.int .i64 600) := by
  apply good_at ak67 rfl rfl rfl
  conv => whnf
  refine AV.of_eqv ?_
  conv => whnf
  refine And.intro (by with_reducible rfl) ?_
  exact True.intro
theorem rmost_good : Good Try.prog 68 [] (.int .i64 600) := by
  apply good_at ak68 rfl rfl rfl
  conv => whnf
  refine AV.of_eqv ?_
  conv => whnf
  refine And.intro (by with_reducible rfl) ?_
  exact True.intro
theorem joined_good (xs ys : List (List AV)) (a b : List Fl) (hx : xs = a.map fl) (hy : ys = b.map fl) (ha : a.length ≤ 1000000) (hb : b.length ≤ 1000000) : Good Try.prog 107 [.sl .sh 3 xs, .sl .sh 3 ys] (.sl .own 3 ((a ++ b).map fl)) := by
  subst hx hy
  apply good_at ak107 rfl rfl rfl
  conv => whnf
  refine And.intro (by decide) ?_
  refine And.intro (by (simp only [map_rows, maxLen_eq, List.length_append, List.length_replicate, List.length_nil, wrap_i64] at *; omega)) ?_
  refine And.intro (by (simp only [map_rows, maxLen_eq, List.length_append, List.length_replicate, List.length_nil, wrap_i64] at *; omega)) ?_
  refine And.intro (by (simp only [map_rows, maxLen_eq, List.length_append, List.length_replicate, List.length_nil, wrap_i64] at *; omega)) ?_
  conv => whnf
  refine And.intro (by (simp; done)) ?_
  refine And.intro (by (simp only [map_rows, maxLen_eq, List.length_append, List.length_replicate, List.length_nil, wrap_i64] at *; omega)) ?_
  refine And.intro (by (simp only [map_rows, maxLen_eq, List.length_append, List.length_replicate, List.length_nil, wrap_i64] at *; omega)) ?_
  conv => whnf
  refine And.intro (by (simp; done)) ?_
  refine And.intro (by (simp only [map_rows, maxLen_eq, List.length_append, List.length_replicate, List.length_nil, wrap_i64] at *; omega)) ?_
  refine And.intro (by (simp only [map_rows, maxLen_eq, List.length_append, List.length_replicate, List.length_nil, wrap_i64] at *; omega)) ?_
  conv => whnf
  refine AV.of_eqv ?_
  conv => whnf
  refine And.intro (by (simp; done)) ?_
  exact True.intro
def full (l f : List Fl) : Prop := 0 < f.length ∧ 600 < l.length + f.length
instance (l f : List Fl) : Decidable (full l f) := by unfold full; infer_instance
def putL (l f : List Fl) : List Fl := if full l f then l else l ++ f
def putE (l f : List Fl) : Int := if full l f then 8 else 0
theorem put_good (xs : List (List AV)) (l f : List Fl) (hx : xs = f.map fl) (hl : l.length ≤ 1000000) (hf : f.length ≤ 1000000) : Good Try.prog 57 [.sl .sh 3 (l.map fl), .sl .sh 3 xs] (.tuple [.sl .sh 3 ((putL l f).map fl), .int .i64 (putE l f)]) := by
  subst hx
  apply good_sh ak57 rfl rfl rfl
  conv => whnf
  refine And.intro (fun hc0 => ?_) (fun hc0 => ?_)
  · replace hc0 := of_decide_eq_true hc0
    conv => whnf
    refine br_l rfl rfl ?_
    conv => whnf
    refine br_l rfl rfl ?_
    conv => whnf
    refine br_l rfl rfl ?_
    conv => whnf
    refine br_l rfl rfl ?_
    conv => whnf
    refine br_l rfl rfl ?_
    conv => whnf
    refine br_l rfl rfl ?_
    conv => whnf
    refine And.intro (fun hc1 => ?_) (fun hc1 => ?_)
    · replace hc1 := of_decide_eq_true hc1
      conv => whnf
      refine AV.of_eqv ?_
      conv => whnf
      refine And.intro (by (unfold putL; rw [if_pos (by unfold full; simp only [map_rows, wrap_i64] at *; omega)])) ?_
      conv => whnf
      refine And.intro (by (unfold putE; rw [if_pos (by unfold full; simp only [map_rows, wrap_i64] at *; omega)])) ?_
      exact True.intro
    · replace hc1 := of_decide_eq_false hc1
      conv => whnf
      refine ⟨_, (joined_good _ _ l f) ?_ ?_ ?_ ?_, ?_⟩
      · with_reducible rfl
      · with_reducible rfl
      · assumption
      · assumption
      · conv => whnf
        refine AV.of_eqv ?_
        conv => whnf
        refine And.intro (by (unfold putL; rw [if_neg (by unfold full; simp only [map_rows, wrap_i64] at *; omega)])) ?_
        conv => whnf
        refine And.intro (by (unfold putE; rw [if_neg (by unfold full; simp only [map_rows, wrap_i64] at *; omega)])) ?_
        exact True.intro
  · replace hc0 := of_decide_eq_false hc0
    conv => whnf
    refine br_r rfl rfl ?_
    conv => whnf
    refine br_r rfl rfl ?_
    conv => whnf
    refine br_r rfl rfl ?_
    conv => whnf
    refine br_r rfl rfl ?_
    conv => whnf
    refine br_r rfl rfl ?_
    conv => whnf
    refine br_r rfl rfl ?_
    conv => whnf
    refine br_r rfl rfl ?_
    conv => whnf
    refine ⟨_, (joined_good _ _ l f) ?_ ?_ ?_ ?_, ?_⟩
    · with_reducible rfl
    · with_reducible rfl
    · assumption
    · assumption
    · conv => whnf
      refine AV.of_eqv ?_
      conv => whnf
      refine And.intro (by (unfold putL; rw [if_neg (by unfold full; simp only [map_rows, wrap_i64] at *; omega)])) ?_
      conv => whnf
      refine And.intro (by (unfold putE; rw [if_neg (by unfold full; simp only [map_rows, wrap_i64] at *; omega)])) ?_
      exact True.intro
theorem rput_good (xs : List (List AV)) (l f : List Fl) (hx : xs = f.map fl) (hl : l.length ≤ 1000000) (hf : f.length ≤ 1000000) : Good Try.prog 58 [.sl .sh 3 (l.map fl), .sl .sh 3 xs] (.tuple [.sl .sh 3 ((putL l f).map fl), .int .i64 (putE l f)]) := by
  subst hx
  apply good_sh ak58 rfl rfl rfl
  conv => whnf
  refine ⟨_, rmost_good, ?_⟩
  conv => whnf
  refine ⟨_, rmost_good, ?_⟩
  conv => whnf
  refine And.intro (fun hc0 => ?_) (fun hc0 => ?_)
  · replace hc0 := of_decide_eq_true hc0
    conv => whnf
    refine AV.of_eqv ?_
    conv => whnf
    refine And.intro (by (unfold putL; rw [if_pos (by unfold full; simp only [map_rows, wrap_i64, mmI] at *; omega)])) ?_
    conv => whnf
    refine And.intro (by (unfold putE; rw [if_pos (by unfold full; simp only [map_rows, wrap_i64, mmI] at *; omega)])) ?_
    exact True.intro
  · replace hc0 := of_decide_eq_false hc0
    conv => whnf
    refine And.intro (by (simp; done)) ?_
    refine And.intro (by (simp only [map_rows, maxLen_eq, List.length_append, List.length_nil] at *; omega)) ?_
    refine And.intro (by (simp only [map_rows, maxLen_eq, List.length_append, List.length_nil] at *; omega)) ?_
    conv => whnf
    refine And.intro (by (simp; done)) ?_
    refine And.intro (by (simp only [map_rows, maxLen_eq, List.length_append, List.length_nil] at *; omega)) ?_
    refine And.intro (by (simp only [map_rows, maxLen_eq, List.length_append, List.length_nil] at *; omega)) ?_
    conv => whnf
    refine AV.of_eqv ?_
    conv => whnf
    refine And.intro (by (unfold putL; rw [if_neg (by unfold full; simp only [map_rows, wrap_i64, mmI] at *; omega)]; simp; done)) ?_
    conv => whnf
    refine And.intro (by (unfold putE; rw [if_neg (by unfold full; simp only [map_rows, wrap_i64, mmI] at *; omega)])) ?_
    exact True.intro
def isAt (l : List Fl) (i : Int) : Prop := 0 ≤ i ∧ i < l.length
instance (l : List Fl) (i : Int) : Decidable (isAt l i) := by unfold isAt; infer_instance
def atF (l : List Fl) (i : Int) : Fl := (l[i.toNat]?).getD (0, 0, [])
def takL (l : List Fl) (i : Int) : List Fl := if isAt l i then l.take i.toNat ++ l.drop (i.toNat + 1) else l
def takF (l : List Fl) (i : Int) : Fl := if isAt l i then atF l i else (0, 0, [])
def takE (l : List Fl) (i : Int) : Int := if isAt l i then 0 else 9
theorem atF_at {l : List Fl} {i : Int} {x : Fl} (hx : l[i.toNat]? = some x) : atF l i = x := by unfold atF; rw [hx]; rfl
theorem take_good (l : List Fl) (i : Int) (hl : l.length ≤ 1000000) : Good Try.prog 59 [.sl .sh 3 (l.map fl), .int .i64 i] (.tuple [.sl .sh 3 ((takL l i).map fl), eF (takF l i), .int .i64 (takE l i)]) := by
  apply good_sh ak59 rfl rfl rfl
  conv => whnf
  refine And.intro (fun hc0 => ?_) (fun hc0 => ?_)
  · replace hc0 := of_decide_eq_false hc0
    conv => whnf
    refine br_l rfl rfl ?_
    conv => whnf
    refine br_l rfl rfl ?_
    conv => whnf
    refine br_l rfl rfl ?_
    conv => whnf
    refine br_r rfl rfl ?_
    conv => whnf
    refine And.intro (fun hc1 => ?_) (fun hc1 => ?_)
    · replace hc1 := of_decide_eq_true hc1
      conv => whnf
      refine AV.of_eqv ?_
      conv => whnf
      refine And.intro (by (unfold takL; rw [if_neg (by unfold isAt; (try simp only [map_rows] at *); omega)])) ?_
      conv => whnf
      refine And.intro (by (unfold takF; rw [if_neg (by unfold isAt; (try simp only [map_rows] at *); omega)])) ?_
      conv => whnf
      refine And.intro (by (unfold takF; rw [if_neg (by unfold isAt; (try simp only [map_rows] at *); omega)])) ?_
      conv => whnf
      refine And.intro (by (unfold takF; rw [if_neg (by unfold isAt; (try simp only [map_rows] at *); omega)])) ?_
      conv => whnf
      refine And.intro (by (unfold takE; rw [if_neg (by unfold isAt; (try simp only [map_rows] at *); omega)])) ?_
      exact True.intro
    · replace hc1 := of_decide_eq_false hc1
      conv => whnf
      refine And.intro (by exact rfl) ?_
      conv => whnf
      refine And.intro (by with_reducible rfl) ?_
      refine And.intro (by decide) ?_
      refine And.intro (by omega) ?_
      refine And.intro (by omega) ?_
      conv => whnf
      refine And.intro (by (simp only [map_rows, wrap_i64, List.length_take, List.length_drop] at *; omega)) ?_
      refine And.intro (by (simp only [map_rows, wrap_i64, List.length_take, List.length_drop] at *; omega)) ?_
      refine And.intro (by omega) ?_
      conv => whnf
      refine ⟨_, (joined_good _ _ (l.take i.toNat) (l.drop (i.toNat + 1))) ?_ ?_ ?_ ?_, ?_⟩
      · (simp [List.map_take]; done)
      · (rw [show (IntKind.i64.wrap (i + 1)).toNat = i.toNat + 1 by (simp only [map_rows, wrap_i64] at *; omega), List.take_of_length_le (by simp), List.map_drop])
      · (simp only [map_rows, wrap_i64, List.length_take, List.length_drop] at *; omega)
      · (simp only [map_rows, wrap_i64, List.length_take, List.length_drop] at *; omega)
      · conv => whnf
        refine And.intro (by omega) ?_
        refine ex_row (l := l) ?_ fun x hx => ?_
        · (simp only [map_rows, wrap_i64, List.length_take, List.length_drop] at *; omega)
        · conv => whnf
          refine AV.of_eqv ?_
          conv => whnf
          refine And.intro (by (unfold takL; rw [if_pos (by unfold isAt; (try simp only [map_rows] at *); omega)])) ?_
          conv => whnf
          refine And.intro (by (unfold takF; rw [if_pos (by unfold isAt; (try simp only [map_rows] at *); omega), atF_at hx])) ?_
          conv => whnf
          refine And.intro (by (unfold takF; rw [if_pos (by unfold isAt; (try simp only [map_rows] at *); omega), atF_at hx])) ?_
          conv => whnf
          refine And.intro (by (unfold takF; rw [if_pos (by unfold isAt; (try simp only [map_rows] at *); omega), atF_at hx])) ?_
          conv => whnf
          refine And.intro (by (unfold takE; rw [if_pos (by unfold isAt; (try simp only [map_rows] at *); omega)])) ?_
          exact True.intro
  · replace hc0 := of_decide_eq_true hc0
    conv => whnf
    refine br_r rfl rfl ?_
    conv => whnf
    refine br_r rfl rfl ?_
    conv => whnf
    refine br_r rfl rfl ?_
    conv => whnf
    refine br_l rfl rfl ?_
    conv => whnf
    refine br_l rfl rfl ?_
    conv => whnf
    refine AV.of_eqv ?_
    conv => whnf
    refine And.intro (by (unfold takL; rw [if_neg (by unfold isAt; (try simp only [map_rows] at *); omega)])) ?_
    conv => whnf
    refine And.intro (by (unfold takF; rw [if_neg (by unfold isAt; (try simp only [map_rows] at *); omega)])) ?_
    conv => whnf
    refine And.intro (by (unfold takF; rw [if_neg (by unfold isAt; (try simp only [map_rows] at *); omega)])) ?_
    conv => whnf
    refine And.intro (by (unfold takF; rw [if_neg (by unfold isAt; (try simp only [map_rows] at *); omega)])) ?_
    conv => whnf
    refine And.intro (by (unfold takE; rw [if_neg (by unfold isAt; (try simp only [map_rows] at *); omega)])) ?_
    exact True.intro
theorem rtake_good (l : List Fl) (i : Int) (hl : l.length ≤ 1000000) : Good Try.prog 60 [.sl .sh 3 (l.map fl), .int .i64 i] (.tuple [.sl .sh 3 ((takL l i).map fl), eF (takF l i), .int .i64 (takE l i)]) := by
  apply good_sh ak60 rfl rfl rfl
  conv => whnf
  refine And.intro (fun hc0 => ?_) (fun hc0 => ?_)
  · replace hc0 := of_decide_eq_false hc0
    conv => whnf
    refine br_l rfl rfl ?_
    conv => whnf
    refine br_l rfl rfl ?_
    conv => whnf
    refine br_l rfl rfl ?_
    conv => whnf
    refine br_r rfl rfl ?_
    conv => whnf
    refine And.intro (fun hc1 => ?_) (fun hc1 => ?_)
    · replace hc1 := of_decide_eq_true hc1
      conv => whnf
      refine AV.of_eqv ?_
      conv => whnf
      refine And.intro (by (unfold takL; rw [if_neg (by unfold isAt; (try simp only [map_rows] at *); omega)])) ?_
      conv => whnf
      refine And.intro (by (unfold takF; rw [if_neg (by unfold isAt; (try simp only [map_rows] at *); omega)])) ?_
      conv => whnf
      refine And.intro (by (unfold takF; rw [if_neg (by unfold isAt; (try simp only [map_rows] at *); omega)])) ?_
      conv => whnf
      refine And.intro (by (unfold takF; rw [if_neg (by unfold isAt; (try simp only [map_rows] at *); omega)])) ?_
      conv => whnf
      refine And.intro (by (unfold takE; rw [if_neg (by unfold isAt; (try simp only [map_rows] at *); omega)])) ?_
      exact True.intro
    · replace hc1 := of_decide_eq_false hc1
      conv => whnf
      refine And.intro (by exact rfl) ?_
      conv => whnf
      refine And.intro (by decide) ?_
      refine And.intro (by omega) ?_
      refine And.intro (by omega) ?_
      conv => whnf
      refine And.intro (by (simp; done)) ?_
      refine And.intro (by (simp only [map_rows, maxLen_eq, wrap_i64, List.length_take, List.length_drop, List.length_append, List.length_nil] at *; omega)) ?_
      refine And.intro (by (simp only [map_rows, maxLen_eq, wrap_i64, List.length_take, List.length_drop, List.length_append, List.length_nil] at *; omega)) ?_
      conv => whnf
      refine And.intro (by (simp only [map_rows, maxLen_eq, wrap_i64, List.length_take, List.length_drop, List.length_append, List.length_nil] at *; omega)) ?_
      refine And.intro (by (simp only [map_rows, maxLen_eq, wrap_i64, List.length_take, List.length_drop, List.length_append, List.length_nil] at *; omega)) ?_
      refine And.intro (by omega) ?_
      conv => whnf
      refine And.intro (by (simp; done)) ?_
      refine And.intro (by (simp only [map_rows, maxLen_eq, wrap_i64, List.length_take, List.length_drop, List.length_append, List.length_nil] at *; omega)) ?_
      refine And.intro (by (simp only [map_rows, maxLen_eq, wrap_i64, List.length_take, List.length_drop, List.length_append, List.length_nil] at *; omega)) ?_
      conv => whnf
      refine And.intro (by omega) ?_
      refine ex_row (l := l) ?_ fun x hx => ?_
      · (simp only [map_rows, maxLen_eq, wrap_i64, List.length_take, List.length_drop, List.length_append, List.length_nil] at *; omega)
      · conv => whnf
        refine AV.of_eqv ?_
        conv => whnf
        refine And.intro (by (unfold takL; rw [if_pos (by unfold isAt; (try simp only [map_rows] at *); omega), show (IntKind.i64.wrap (i + 1)).toNat = i.toNat + 1 by (simp only [map_rows, wrap_i64] at *; omega)]; simp only [List.map_append, List.map_take, List.map_drop, Int.toNat_natCast, List.take_length, List.nil_append]; rfl)) ?_
        conv => whnf
        refine And.intro (by (unfold takF; rw [if_pos (by unfold isAt; (try simp only [map_rows] at *); omega), atF_at hx])) ?_
        conv => whnf
        refine And.intro (by (unfold takF; rw [if_pos (by unfold isAt; (try simp only [map_rows] at *); omega), atF_at hx])) ?_
        conv => whnf
        refine And.intro (by (unfold takF; rw [if_pos (by unfold isAt; (try simp only [map_rows] at *); omega), atF_at hx])) ?_
        conv => whnf
        refine And.intro (by (unfold takE; rw [if_pos (by unfold isAt; (try simp only [map_rows] at *); omega)])) ?_
        exact True.intro
  · replace hc0 := of_decide_eq_true hc0
    conv => whnf
    refine br_r rfl rfl ?_
    conv => whnf
    refine br_r rfl rfl ?_
    conv => whnf
    refine br_r rfl rfl ?_
    conv => whnf
    refine br_l rfl rfl ?_
    conv => whnf
    refine br_l rfl rfl ?_
    conv => whnf
    refine AV.of_eqv ?_
    conv => whnf
    refine And.intro (by (unfold takL; rw [if_neg (by unfold isAt; (try simp only [map_rows] at *); omega)])) ?_
    conv => whnf
    refine And.intro (by (unfold takF; rw [if_neg (by unfold isAt; (try simp only [map_rows] at *); omega)])) ?_
    conv => whnf
    refine And.intro (by (unfold takF; rw [if_neg (by unfold isAt; (try simp only [map_rows] at *); omega)])) ?_
    conv => whnf
    refine And.intro (by (unfold takF; rw [if_neg (by unfold isAt; (try simp only [map_rows] at *); omega)])) ?_
    conv => whnf
    refine And.intro (by (unfold takE; rw [if_neg (by unfold isAt; (try simp only [map_rows] at *); omega)])) ?_
    exact True.intro
def twiL (l : List Fl) (i : Int) : List Fl := if isAt l i then putL l [atF l i] else l
def twiE (l : List Fl) (i : Int) : Int := if isAt l i then putE l [atF l i] else 9
theorem twice_good (l : List Fl) (i : Int) (hl : l.length ≤ 1000000) : Good Try.prog 61 [.sl .sh 3 (l.map fl), .int .i64 i] (.tuple [.sl .sh 3 ((twiL l i).map fl), .int .i64 (twiE l i)]) := by
  apply good_sh ak61 rfl rfl rfl
  conv => whnf
  refine And.intro (fun hc0 => ?_) (fun hc0 => ?_)
  · replace hc0 := of_decide_eq_false hc0
    conv => whnf
    refine br_l rfl rfl ?_
    conv => whnf
    refine br_l rfl rfl ?_
    conv => whnf
    refine br_l rfl rfl ?_
    conv => whnf
    refine br_r rfl rfl ?_
    conv => whnf
    refine And.intro (fun hc1 => ?_) (fun hc1 => ?_)
    · replace hc1 := of_decide_eq_true hc1
      conv => whnf
      refine AV.of_eqv ?_
      conv => whnf
      refine And.intro (by (unfold twiL; rw [if_neg (by unfold isAt; (try simp only [map_rows] at *); omega)])) ?_
      conv => whnf
      refine And.intro (by (unfold twiE; rw [if_neg (by unfold isAt; (try simp only [map_rows] at *); omega)])) ?_
      exact True.intro
    · replace hc1 := of_decide_eq_false hc1
      conv => whnf
      refine And.intro (by omega) ?_
      refine ex_row (l := l) ?_ fun x hx => ?_
      · (simp only [map_rows] at *; omega)
      · conv => whnf
        refine ⟨_, (put_good _ l [x]) ?_ ?_ ?_, ?_⟩
        · exact rfl
        · assumption
        · (simp; done)
        · conv => whnf
          refine AV.of_eqv ?_
          conv => whnf
          refine And.intro (by (unfold twiL; rw [if_pos (by unfold isAt; (try simp only [map_rows] at *); omega), atF_at hx])) ?_
          conv => whnf
          refine And.intro (by (unfold twiE; rw [if_pos (by unfold isAt; (try simp only [map_rows] at *); omega), atF_at hx])) ?_
          exact True.intro
  · replace hc0 := of_decide_eq_true hc0
    conv => whnf
    refine br_r rfl rfl ?_
    conv => whnf
    refine br_r rfl rfl ?_
    conv => whnf
    refine br_r rfl rfl ?_
    conv => whnf
    refine br_l rfl rfl ?_
    conv => whnf
    refine br_l rfl rfl ?_
    conv => whnf
    refine AV.of_eqv ?_
    conv => whnf
    refine And.intro (by (unfold twiL; rw [if_neg (by unfold isAt; (try simp only [map_rows] at *); omega)])) ?_
    conv => whnf
    refine And.intro (by (unfold twiE; rw [if_neg (by unfold isAt; (try simp only [map_rows] at *); omega)])) ?_
    exact True.intro
theorem rtwice_good (l : List Fl) (i : Int) (hl : l.length ≤ 1000000) : Good Try.prog 62 [.sl .sh 3 (l.map fl), .int .i64 i] (.tuple [.sl .sh 3 ((twiL l i).map fl), .int .i64 (twiE l i)]) := by
  apply good_sh ak62 rfl rfl rfl
  conv => whnf
  refine And.intro (fun hc0 => ?_) (fun hc0 => ?_)
  · replace hc0 := of_decide_eq_false hc0
    conv => whnf
    refine br_l rfl rfl ?_
    conv => whnf
    refine br_l rfl rfl ?_
    conv => whnf
    refine br_l rfl rfl ?_
    conv => whnf
    refine br_r rfl rfl ?_
    conv => whnf
    refine And.intro (fun hc1 => ?_) (fun hc1 => ?_)
    · replace hc1 := of_decide_eq_true hc1
      conv => whnf
      refine AV.of_eqv ?_
      conv => whnf
      refine And.intro (by (unfold twiL; rw [if_neg (by unfold isAt; (try simp only [map_rows] at *); omega)])) ?_
      conv => whnf
      refine And.intro (by (unfold twiE; rw [if_neg (by unfold isAt; (try simp only [map_rows] at *); omega)])) ?_
      exact True.intro
    · replace hc1 := of_decide_eq_false hc1
      conv => whnf
      refine And.intro (by omega) ?_
      refine ex_row (l := l) ?_ fun x hx => ?_
      · (simp only [map_rows] at *; omega)
      · conv => whnf
        refine ⟨_, (rput_good _ l [x]) ?_ ?_ ?_, ?_⟩
        · exact rfl
        · assumption
        · (simp; done)
        · conv => whnf
          refine AV.of_eqv ?_
          conv => whnf
          refine And.intro (by (unfold twiL; rw [if_pos (by unfold isAt; (try simp only [map_rows] at *); omega), atF_at hx])) ?_
          conv => whnf
          refine And.intro (by (unfold twiE; rw [if_pos (by unfold isAt; (try simp only [map_rows] at *); omega), atF_at hx])) ?_
          exact True.intro
  · replace hc0 := of_decide_eq_true hc0
    conv => whnf
    refine br_r rfl rfl ?_
    conv => whnf
    refine br_r rfl rfl ?_
    conv => whnf
    refine br_r rfl rfl ?_
    conv => whnf
    refine br_l rfl rfl ?_
    conv => whnf
    refine br_l rfl rfl ?_
    conv => whnf
    refine AV.of_eqv ?_
    conv => whnf
    refine And.intro (by (unfold twiL; rw [if_neg (by unfold isAt; (try simp only [map_rows] at *); omega)])) ?_
    conv => whnf
    refine And.intro (by (unfold twiE; rw [if_neg (by unfold isAt; (try simp only [map_rows] at *); omega)])) ?_
    exact True.intro
theorem equal_good (l m : List Fl) (hl : l.length ≤ 1000000) (hm : m.length ≤ 1000000) : Good Try.prog 108 [.sl .sh 3 (l.map fl), .sl .sh 3 (m.map fl)] (.bool (decide (l = m))) := by
  apply good_at ak108 rfl rfl rfl
  conv => whnf
  refine And.intro (fun hc0 => ?_) (fun hc0 => ?_)
  · replace hc0 := of_decide_eq_false (Bool.not_eq_true' _ |>.mp hc0)
    conv => whnf
    refine AV.of_eqv ?_
    conv => whnf
    refine And.intro (by (exact (decide_eq_false (by rintro rfl; omega)).symm)) ?_
    exact True.intro
  · replace hc0 := of_decide_eq_true (Bool.not_eq_false' _ |>.mp hc0)
    conv => whnf
    refine loop_at (α := Nat) [] (fun i => [(13, .int .i64 (i : Int))]) (fun i => []) (fun i => i ≤ l.length ∧ l.take i = m.take i) (fun i => l.length - i) (0) (st_of ?_) ?_ (by rintro i _; rfl) ?_
    · conv => whnf
      refine And.intro (by with_reducible rfl) ?_
      conv => whnf
      refine And.intro (by with_reducible rfl) ?_
      conv => whnf
      refine And.intro (by with_reducible rfl) ?_
      conv => whnf
      refine And.intro (by with_reducible rfl) ?_
      conv => whnf
      refine And.intro (by with_reducible rfl) ?_
      conv => whnf
      refine And.intro (by with_reducible rfl) ?_
      conv => whnf
      refine And.intro (by with_reducible rfl) ?_
      conv => whnf
      refine And.intro (by with_reducible rfl) ?_
      conv => whnf
      refine And.intro (by with_reducible rfl) ?_
      conv => whnf
      refine And.intro (by decide) ?_
      exact True.intro
    · (exact ⟨by omega, rfl⟩)
    · rintro i nextl0 hIl0 ihl0
      try dsimp only at hIl0
      conv => whnf
      refine And.intro (fun hc1 => ?_) (fun hc1 => ?_)
      · replace hc1 := of_decide_eq_true hc1
        conv => whnf
        refine And.intro (by exact rfl) ?_
        conv => whnf
        refine And.intro (by omega) ?_
        refine ex_row (l := l) ?_ fun x hx => ?_
        · (simp only [map_rows, maxLen_eq] at *; omega)
        · simp only [toNat_ofNat] at hx
          conv => whnf
          refine And.intro (by omega) ?_
          refine ex_row (l := m) ?_ fun y hy => ?_
          · (simp only [map_rows, maxLen_eq] at *; omega)
          · simp only [toNat_ofNat] at hy
            conv => whnf
            refine And.intro (fun hc4 => ?_) (fun hc4 => ?_)
            · simp only [Bool.not_eq_true', Bool.not_eq_false', Bool.and_eq_true, Bool.and_eq_false_imp, Bool.or_eq_true, Bool.or_eq_false_iff, Bool.and_true, Bool.true_and, Bool.not_true, Bool.not_false, decide_eq_true_eq, decide_eq_false_iff_not, Bool.decide_and] at hc4
              conv => whnf
              refine AV.of_eqv ?_
              conv => whnf
              refine And.intro (by (exact (decide_eq_false (ne_at hx hy (by rintro rfl; simp_all))).symm)) ?_
              exact True.intro
            · simp only [Bool.not_eq_true', Bool.not_eq_false', Bool.and_eq_true, Bool.and_eq_false_imp, Bool.or_eq_true, Bool.or_eq_false_iff, Bool.and_true, Bool.true_and, Bool.not_true, Bool.not_false, decide_eq_true_eq, decide_eq_false_iff_not, Bool.decide_and] at hc4
              conv => whnf
              refine ihl0 (i + 1) _ ?_ ?_ (st_of ?_)
              · (have := lt_at hx; exact ⟨by omega, eq_next hIl0.2 hx hy (by simp_all [Prod.ext_iff])⟩)
              · (simp only [map_rows, maxLen_eq] at *; omega)
              · conv => whnf
                refine And.intro (by with_reducible rfl) ?_
                conv => whnf
                refine And.intro (by with_reducible rfl) ?_
                conv => whnf
                refine And.intro (by with_reducible rfl) ?_
                conv => whnf
                refine And.intro (by with_reducible rfl) ?_
                conv => whnf
                refine And.intro (by with_reducible rfl) ?_
                conv => whnf
                refine And.intro (by with_reducible rfl) ?_
                conv => whnf
                refine And.intro (by with_reducible rfl) ?_
                conv => whnf
                refine And.intro (by with_reducible rfl) ?_
                conv => whnf
                refine And.intro (by with_reducible rfl) ?_
                conv => whnf
                refine And.intro (by (simp only [wrap_i64, wrap_u64, wrap_u32, wrap_u16, wrap_u8, maxLen_eq, mmI] at *; omega)) ?_
                exact True.intro
      · replace hc1 := of_decide_eq_false hc1
        conv => whnf
        refine AV.of_eqv ?_
        conv => whnf
        refine And.intro (by (exact (decide_eq_true (eq_end hIl0.2 (by simp only [map_rows] at *; omega) (by simp only [map_rows] at *; omega))).symm)) ?_
        exact True.intro
theorem rsame_good (l m : List Fl) (hl : l.length ≤ 1000000) (hm : m.length ≤ 1000000) : Good Try.prog 63 [.sl .sh 3 (l.map fl), .sl .sh 3 (m.map fl)] (.bool (decide (l = m))) := by
  apply good_at ak63 rfl rfl rfl
  conv => whnf
  refine And.intro (fun hc0 => ?_) (fun hc0 => ?_)
  · replace hc0 := of_decide_eq_false (Bool.not_eq_true' _ |>.mp hc0)
    conv => whnf
    refine AV.of_eqv ?_
    conv => whnf
    refine And.intro (by (exact (decide_eq_false (by rintro rfl; omega)).symm)) ?_
    exact True.intro
  · replace hc0 := of_decide_eq_true (Bool.not_eq_false' _ |>.mp hc0)
    conv => whnf
    refine loop_at (α := Nat) [] (fun i => [(13, .int .i64 (i : Int))]) (fun i => []) (fun i => i ≤ l.length ∧ l.take i = m.take i) (fun i => l.length - i) (0) (st_of ?_) ?_ (by rintro i _; rfl) ?_
    · conv => whnf
      refine And.intro (by with_reducible rfl) ?_
      conv => whnf
      refine And.intro (by with_reducible rfl) ?_
      conv => whnf
      refine And.intro (by with_reducible rfl) ?_
      conv => whnf
      refine And.intro (by with_reducible rfl) ?_
      conv => whnf
      refine And.intro (by with_reducible rfl) ?_
      conv => whnf
      refine And.intro (by with_reducible rfl) ?_
      conv => whnf
      refine And.intro (by with_reducible rfl) ?_
      conv => whnf
      refine And.intro (by with_reducible rfl) ?_
      conv => whnf
      refine And.intro (by with_reducible rfl) ?_
      conv => whnf
      refine And.intro (by decide) ?_
      exact True.intro
    · (exact ⟨by omega, rfl⟩)
    · rintro i nextl0 hIl0 ihl0
      try dsimp only at hIl0
      conv => whnf
      refine And.intro (fun hc1 => ?_) (fun hc1 => ?_)
      · replace hc1 := of_decide_eq_true hc1
        conv => whnf
        refine And.intro (by exact rfl) ?_
        conv => whnf
        refine And.intro (by omega) ?_
        refine ex_row (l := l) ?_ fun x hx => ?_
        · (simp only [map_rows, maxLen_eq] at *; omega)
        · simp only [toNat_ofNat] at hx
          conv => whnf
          refine And.intro (by omega) ?_
          refine ex_row (l := m) ?_ fun y hy => ?_
          · (simp only [map_rows, maxLen_eq] at *; omega)
          · simp only [toNat_ofNat] at hy
            conv => whnf
            refine And.intro (fun hc4 => ?_) (fun hc4 => ?_)
            · simp only [Bool.not_eq_true', Bool.not_eq_false', Bool.and_eq_true, Bool.and_eq_false_imp, Bool.or_eq_true, Bool.or_eq_false_iff, Bool.and_true, Bool.true_and, Bool.not_true, Bool.not_false, decide_eq_true_eq, decide_eq_false_iff_not, Bool.decide_and] at hc4
              conv => whnf
              refine AV.of_eqv ?_
              conv => whnf
              refine And.intro (by (exact (decide_eq_false (ne_at hx hy (by rintro rfl; simp_all))).symm)) ?_
              exact True.intro
            · simp only [Bool.not_eq_true', Bool.not_eq_false', Bool.and_eq_true, Bool.and_eq_false_imp, Bool.or_eq_true, Bool.or_eq_false_iff, Bool.and_true, Bool.true_and, Bool.not_true, Bool.not_false, decide_eq_true_eq, decide_eq_false_iff_not, Bool.decide_and] at hc4
              conv => whnf
              refine ihl0 (i + 1) _ ?_ ?_ (st_of ?_)
              · (have := lt_at hx; exact ⟨by omega, eq_next hIl0.2 hx hy (by simp_all [Prod.ext_iff])⟩)
              · (simp only [map_rows, maxLen_eq] at *; omega)
              · conv => whnf
                refine And.intro (by with_reducible rfl) ?_
                conv => whnf
                refine And.intro (by with_reducible rfl) ?_
                conv => whnf
                refine And.intro (by with_reducible rfl) ?_
                conv => whnf
                refine And.intro (by with_reducible rfl) ?_
                conv => whnf
                refine And.intro (by with_reducible rfl) ?_
                conv => whnf
                refine And.intro (by with_reducible rfl) ?_
                conv => whnf
                refine And.intro (by with_reducible rfl) ?_
                conv => whnf
                refine And.intro (by with_reducible rfl) ?_
                conv => whnf
                refine And.intro (by with_reducible rfl) ?_
                conv => whnf
                refine And.intro (by (simp only [wrap_i64, wrap_u64, wrap_u32, wrap_u16, wrap_u8, maxLen_eq, mmI] at *; omega)) ?_
                exact True.intro
      · replace hc1 := of_decide_eq_false hc1
        conv => whnf
        refine AV.of_eqv ?_
        conv => whnf
        refine And.intro (by (exact (decide_eq_true (eq_end hIl0.2 (by simp only [map_rows] at *; omega) (by simp only [map_rows] at *; omega))).symm)) ?_
        exact True.intro
theorem same_good (l m : List Fl) (hl : l.length ≤ 1000000) (hm : m.length ≤ 1000000) : Good Try.prog 64 [.sl .sh 3 (l.map fl), .sl .sh 3 (m.map fl)] (.bool (decide (l = m))) := by
  apply good_at ak64 rfl rfl rfl
  conv => whnf
  refine ⟨_, equal_good _ _ ?_ ?_, ?_⟩
  · assumption
  · assumption
  · conv => whnf
    refine AV.of_eqv ?_
    conv => whnf
    refine And.intro (by with_reducible rfl) ?_
    exact True.intro
def btw (a b : Int) (x : Fl) : Bool := decide ((x.1 = a ∧ x.2.1 = b) ∨ (x.1 = b ∧ x.2.1 = a))
theorem between_good (l : List Fl) (a b : Int) (hl : l.length ≤ 1000000) : Good Try.prog 65 [.sl .sh 3 (l.map fl), .int .i64 a, .int .i64 b] (.int .i64 (((l.filter (btw a b)).length : Nat) : Int)) := by
  apply good_at ak65 rfl rfl rfl
  conv => whnf
  refine loop_at (α := Nat) [] (fun i => [(12, .int .i64 (i : Int)), (7, .int .i64 ((((l.take i).filter (btw a b)).length : Nat) : Int))]) (fun i => []) (fun i => i ≤ l.length) (fun i => l.length - i) (0) (st_of ?_) ?_ (by rintro i _; rfl) ?_
  · conv => whnf
    refine And.intro (by with_reducible rfl) ?_
    conv => whnf
    refine And.intro (by with_reducible rfl) ?_
    conv => whnf
    refine And.intro (by with_reducible rfl) ?_
    conv => whnf
    refine And.intro (by with_reducible rfl) ?_
    conv => whnf
    refine And.intro (by (simp; done)) ?_
    conv => whnf
    refine And.intro (by with_reducible rfl) ?_
    conv => whnf
    refine And.intro (by with_reducible rfl) ?_
    conv => whnf
    refine And.intro (by decide) ?_
    exact True.intro
  · omega
  · rintro i nextl0 hIl0 ihl0
    try dsimp only at hIl0
    conv => whnf
    refine And.intro (fun hc0 => ?_) (fun hc0 => ?_)
    · replace hc0 := of_decide_eq_true hc0
      conv => whnf
      refine And.intro (by omega) ?_
      refine ex_row (l := l) ?_ fun x hx => ?_
      · (simp only [map_rows] at *; omega)
      · simp only [toNat_ofNat] at hx
        conv => whnf
        refine And.intro (fun hc2 => ?_) (fun hc2 => ?_)
        · replace hc2 := of_decide_eq_true hc2
          conv => whnf
          refine br_l rfl rfl ?_
          conv => whnf
          refine br_l rfl rfl ?_
          conv => whnf
          refine br_l rfl rfl ?_
          conv => whnf
          refine br_l rfl rfl ?_
          conv => whnf
          refine And.intro (fun hc3 => ?_) (fun hc3 => ?_)
          · replace hc3 := of_decide_eq_false hc3
            conv => whnf
            refine br_l rfl rfl ?_
            conv => whnf
            refine br_l rfl rfl ?_
            conv => whnf
            refine br_l rfl rfl ?_
            conv => whnf
            refine br_l rfl rfl ?_
            conv => whnf
            refine And.intro (fun hc4 => ?_) (fun hc4 => ?_)
            · replace hc4 := of_decide_eq_true hc4
              conv => whnf
              refine br_l rfl rfl ?_
              conv => whnf
              refine br_l rfl rfl ?_
              conv => whnf
              refine br_l rfl rfl ?_
              conv => whnf
              refine br_l rfl rfl ?_
              conv => whnf
              refine br_l rfl rfl ?_
              conv => whnf
              refine br_r rfl rfl ?_
              conv => whnf
              refine And.intro (fun hc5 => ?_) (fun hc5 => ?_)
              · replace hc5 := of_decide_eq_true hc5
                (exfalso; omega)
              · replace hc5 := of_decide_eq_false hc5
                conv => whnf
                refine ihl0 (i + 1) _ ?_ ?_ (st_of ?_)
                · (simp only [map_rows] at *; omega)
                · (simp only [map_rows] at *; omega)
                · conv => whnf
                  refine And.intro (by with_reducible rfl) ?_
                  conv => whnf
                  refine And.intro (by with_reducible rfl) ?_
                  conv => whnf
                  refine And.intro (by with_reducible rfl) ?_
                  conv => whnf
                  refine And.intro (by with_reducible rfl) ?_
                  conv => whnf
                  refine And.intro (by (rw [filter_at _ hx, if_neg (by simp only [btw, decide_eq_true_eq]; omega), List.append_nil])) ?_
                  conv => whnf
                  refine And.intro (by with_reducible rfl) ?_
                  conv => whnf
                  refine And.intro (by with_reducible rfl) ?_
                  conv => whnf
                  refine And.intro (by (simp only [wrap_i64, wrap_u64, wrap_u32, wrap_u16, wrap_u8, maxLen_eq, mmI] at *; omega)) ?_
                  exact True.intro
            · replace hc4 := of_decide_eq_false hc4
              conv => whnf
              refine br_r rfl rfl ?_
              conv => whnf
              refine br_r rfl rfl ?_
              conv => whnf
              refine br_r rfl rfl ?_
              conv => whnf
              refine br_l rfl rfl ?_
              conv => whnf
              refine br_r rfl rfl ?_
              conv => whnf
              refine br_r rfl rfl ?_
              conv => whnf
              refine br_r rfl rfl ?_
              conv => whnf
              refine ihl0 (i + 1) _ ?_ ?_ (st_of ?_)
              · (simp only [map_rows] at *; omega)
              · (simp only [map_rows] at *; omega)
              · conv => whnf
                refine And.intro (by with_reducible rfl) ?_
                conv => whnf
                refine And.intro (by with_reducible rfl) ?_
                conv => whnf
                refine And.intro (by with_reducible rfl) ?_
                conv => whnf
                refine And.intro (by with_reducible rfl) ?_
                conv => whnf
                refine And.intro (by (rw [filter_at _ hx, if_neg (by simp only [btw, decide_eq_true_eq]; omega), List.append_nil])) ?_
                conv => whnf
                refine And.intro (by with_reducible rfl) ?_
                conv => whnf
                refine And.intro (by with_reducible rfl) ?_
                conv => whnf
                refine And.intro (by (simp only [wrap_i64, wrap_u64, wrap_u32, wrap_u16, wrap_u8, maxLen_eq, mmI] at *; omega)) ?_
                exact True.intro
          · replace hc3 := of_decide_eq_true hc3
            conv => whnf
            refine br_r rfl rfl ?_
            conv => whnf
            refine br_r rfl rfl ?_
            conv => whnf
            refine br_r rfl rfl ?_
            conv => whnf
            refine br_r rfl rfl ?_
            conv => whnf
            refine br_r rfl rfl ?_
            conv => whnf
            refine br_l rfl rfl ?_
            conv => whnf
            refine br_l rfl rfl ?_
            conv => whnf
            refine ihl0 (i + 1) _ ?_ ?_ (st_of ?_)
            · (simp only [map_rows] at *; omega)
            · (simp only [map_rows] at *; omega)
            · conv => whnf
              refine And.intro (by with_reducible rfl) ?_
              conv => whnf
              refine And.intro (by with_reducible rfl) ?_
              conv => whnf
              refine And.intro (by with_reducible rfl) ?_
              conv => whnf
              refine And.intro (by with_reducible rfl) ?_
              conv => whnf
              refine And.intro (by (have := flen_le l i (btw a b); rw [filter_at _ hx, if_pos (by simp only [btw, decide_eq_true_eq]; omega)]; simp only [wrap_i64, List.length_append, List.length_cons, List.length_nil]; omega)) ?_
              conv => whnf
              refine And.intro (by with_reducible rfl) ?_
              conv => whnf
              refine And.intro (by with_reducible rfl) ?_
              conv => whnf
              refine And.intro (by (simp only [wrap_i64, wrap_u64, wrap_u32, wrap_u16, wrap_u8, maxLen_eq, mmI] at *; omega)) ?_
              exact True.intro
        · replace hc2 := of_decide_eq_false hc2
          conv => whnf
          refine br_r rfl rfl ?_
          conv => whnf
          refine br_r rfl rfl ?_
          conv => whnf
          refine br_r rfl rfl ?_
          conv => whnf
          refine br_r rfl rfl ?_
          conv => whnf
          refine br_l rfl rfl ?_
          conv => whnf
          refine br_l rfl rfl ?_
          conv => whnf
          refine br_l rfl rfl ?_
          conv => whnf
          refine br_l rfl rfl ?_
          conv => whnf
          refine br_l rfl rfl ?_
          conv => whnf
          refine And.intro (fun hc6 => ?_) (fun hc6 => ?_)
          · replace hc6 := of_decide_eq_true hc6
            conv => whnf
            refine br_l rfl rfl ?_
            conv => whnf
            refine br_l rfl rfl ?_
            conv => whnf
            refine br_l rfl rfl ?_
            conv => whnf
            refine br_l rfl rfl ?_
            conv => whnf
            refine br_l rfl rfl ?_
            conv => whnf
            refine br_r rfl rfl ?_
            conv => whnf
            refine And.intro (fun hc7 => ?_) (fun hc7 => ?_)
            · replace hc7 := of_decide_eq_true hc7
              conv => whnf
              refine ihl0 (i + 1) _ ?_ ?_ (st_of ?_)
              · (simp only [map_rows] at *; omega)
              · (simp only [map_rows] at *; omega)
              · conv => whnf
                refine And.intro (by with_reducible rfl) ?_
                conv => whnf
                refine And.intro (by with_reducible rfl) ?_
                conv => whnf
                refine And.intro (by with_reducible rfl) ?_
                conv => whnf
                refine And.intro (by with_reducible rfl) ?_
                conv => whnf
                refine And.intro (by (have := flen_le l i (btw a b); rw [filter_at _ hx, if_pos (by simp only [btw, decide_eq_true_eq]; omega)]; simp only [wrap_i64, List.length_append, List.length_cons, List.length_nil]; omega)) ?_
                conv => whnf
                refine And.intro (by with_reducible rfl) ?_
                conv => whnf
                refine And.intro (by with_reducible rfl) ?_
                conv => whnf
                refine And.intro (by (simp only [wrap_i64, wrap_u64, wrap_u32, wrap_u16, wrap_u8, maxLen_eq, mmI] at *; omega)) ?_
                exact True.intro
            · replace hc7 := of_decide_eq_false hc7
              conv => whnf
              refine ihl0 (i + 1) _ ?_ ?_ (st_of ?_)
              · (simp only [map_rows] at *; omega)
              · (simp only [map_rows] at *; omega)
              · conv => whnf
                refine And.intro (by with_reducible rfl) ?_
                conv => whnf
                refine And.intro (by with_reducible rfl) ?_
                conv => whnf
                refine And.intro (by with_reducible rfl) ?_
                conv => whnf
                refine And.intro (by with_reducible rfl) ?_
                conv => whnf
                refine And.intro (by (rw [filter_at _ hx, if_neg (by simp only [btw, decide_eq_true_eq]; omega), List.append_nil])) ?_
                conv => whnf
                refine And.intro (by with_reducible rfl) ?_
                conv => whnf
                refine And.intro (by with_reducible rfl) ?_
                conv => whnf
                refine And.intro (by (simp only [wrap_i64, wrap_u64, wrap_u32, wrap_u16, wrap_u8, maxLen_eq, mmI] at *; omega)) ?_
                exact True.intro
          · replace hc6 := of_decide_eq_false hc6
            conv => whnf
            refine br_r rfl rfl ?_
            conv => whnf
            refine br_r rfl rfl ?_
            conv => whnf
            refine br_r rfl rfl ?_
            conv => whnf
            refine br_l rfl rfl ?_
            conv => whnf
            refine br_r rfl rfl ?_
            conv => whnf
            refine br_r rfl rfl ?_
            conv => whnf
            refine br_r rfl rfl ?_
            conv => whnf
            refine ihl0 (i + 1) _ ?_ ?_ (st_of ?_)
            · (simp only [map_rows] at *; omega)
            · (simp only [map_rows] at *; omega)
            · conv => whnf
              refine And.intro (by with_reducible rfl) ?_
              conv => whnf
              refine And.intro (by with_reducible rfl) ?_
              conv => whnf
              refine And.intro (by with_reducible rfl) ?_
              conv => whnf
              refine And.intro (by with_reducible rfl) ?_
              conv => whnf
              refine And.intro (by (rw [filter_at _ hx, if_neg (by simp only [btw, decide_eq_true_eq]; omega), List.append_nil])) ?_
              conv => whnf
              refine And.intro (by with_reducible rfl) ?_
              conv => whnf
              refine And.intro (by with_reducible rfl) ?_
              conv => whnf
              refine And.intro (by (simp only [wrap_i64, wrap_u64, wrap_u32, wrap_u16, wrap_u8, maxLen_eq, mmI] at *; omega)) ?_
              exact True.intro
    · replace hc0 := of_decide_eq_false hc0
      conv => whnf
      refine AV.of_eqv ?_
      conv => whnf
      refine And.intro (by (rw [take_end (by simp only [map_rows] at *; omega)])) ?_
      exact True.intro
theorem rbetween_good (l : List Fl) (a b : Int) (hl : l.length ≤ 1000000) : Good Try.prog 66 [.sl .sh 3 (l.map fl), .int .i64 a, .int .i64 b] (.int .i64 (((l.filter (btw a b)).length : Nat) : Int)) := by
  apply good_at ak66 rfl rfl rfl
  conv => whnf
  refine loop_at (α := Nat) [] (fun i => [(12, .int .i64 (i : Int)), (7, .int .i64 ((((l.take i).filter (btw a b)).length : Nat) : Int))]) (fun i => []) (fun i => i ≤ l.length) (fun i => l.length - i) (0) (st_of ?_) ?_ (by rintro i _; rfl) ?_
  · conv => whnf
    refine And.intro (by with_reducible rfl) ?_
    conv => whnf
    refine And.intro (by with_reducible rfl) ?_
    conv => whnf
    refine And.intro (by with_reducible rfl) ?_
    conv => whnf
    refine And.intro (by with_reducible rfl) ?_
    conv => whnf
    refine And.intro (by (simp; done)) ?_
    conv => whnf
    refine And.intro (by with_reducible rfl) ?_
    conv => whnf
    refine And.intro (by with_reducible rfl) ?_
    conv => whnf
    refine And.intro (by decide) ?_
    exact True.intro
  · omega
  · rintro i nextl0 hIl0 ihl0
    try dsimp only at hIl0
    conv => whnf
    refine And.intro (fun hc0 => ?_) (fun hc0 => ?_)
    · replace hc0 := of_decide_eq_true hc0
      conv => whnf
      refine And.intro (by omega) ?_
      refine ex_row (l := l) ?_ fun x hx => ?_
      · (simp only [map_rows] at *; omega)
      · simp only [toNat_ofNat] at hx
        conv => whnf
        refine And.intro (fun hc2 => ?_) (fun hc2 => ?_)
        · replace hc2 := of_decide_eq_true hc2
          conv => whnf
          refine br_l rfl rfl ?_
          conv => whnf
          refine br_l rfl rfl ?_
          conv => whnf
          refine br_l rfl rfl ?_
          conv => whnf
          refine br_l rfl rfl ?_
          conv => whnf
          refine And.intro (fun hc3 => ?_) (fun hc3 => ?_)
          · replace hc3 := of_decide_eq_false hc3
            conv => whnf
            refine br_l rfl rfl ?_
            conv => whnf
            refine br_l rfl rfl ?_
            conv => whnf
            refine br_l rfl rfl ?_
            conv => whnf
            refine br_l rfl rfl ?_
            conv => whnf
            refine And.intro (fun hc4 => ?_) (fun hc4 => ?_)
            · replace hc4 := of_decide_eq_true hc4
              conv => whnf
              refine br_l rfl rfl ?_
              conv => whnf
              refine br_l rfl rfl ?_
              conv => whnf
              refine br_l rfl rfl ?_
              conv => whnf
              refine br_l rfl rfl ?_
              conv => whnf
              refine br_l rfl rfl ?_
              conv => whnf
              refine br_r rfl rfl ?_
              conv => whnf
              refine And.intro (fun hc5 => ?_) (fun hc5 => ?_)
              · replace hc5 := of_decide_eq_true hc5
                (exfalso; omega)
              · replace hc5 := of_decide_eq_false hc5
                conv => whnf
                refine ihl0 (i + 1) _ ?_ ?_ (st_of ?_)
                · (simp only [map_rows] at *; omega)
                · (simp only [map_rows] at *; omega)
                · conv => whnf
                  refine And.intro (by with_reducible rfl) ?_
                  conv => whnf
                  refine And.intro (by with_reducible rfl) ?_
                  conv => whnf
                  refine And.intro (by with_reducible rfl) ?_
                  conv => whnf
                  refine And.intro (by with_reducible rfl) ?_
                  conv => whnf
                  refine And.intro (by (rw [filter_at _ hx, if_neg (by simp only [btw, decide_eq_true_eq]; omega), List.append_nil])) ?_
                  conv => whnf
                  refine And.intro (by with_reducible rfl) ?_
                  conv => whnf
                  refine And.intro (by with_reducible rfl) ?_
                  conv => whnf
                  refine And.intro (by (simp only [wrap_i64, wrap_u64, wrap_u32, wrap_u16, wrap_u8, maxLen_eq, mmI] at *; omega)) ?_
                  exact True.intro
            · replace hc4 := of_decide_eq_false hc4
              conv => whnf
              refine br_r rfl rfl ?_
              conv => whnf
              refine br_r rfl rfl ?_
              conv => whnf
              refine br_r rfl rfl ?_
              conv => whnf
              refine br_l rfl rfl ?_
              conv => whnf
              refine br_r rfl rfl ?_
              conv => whnf
              refine br_r rfl rfl ?_
              conv => whnf
              refine br_r rfl rfl ?_
              conv => whnf
              refine ihl0 (i + 1) _ ?_ ?_ (st_of ?_)
              · (simp only [map_rows] at *; omega)
              · (simp only [map_rows] at *; omega)
              · conv => whnf
                refine And.intro (by with_reducible rfl) ?_
                conv => whnf
                refine And.intro (by with_reducible rfl) ?_
                conv => whnf
                refine And.intro (by with_reducible rfl) ?_
                conv => whnf
                refine And.intro (by with_reducible rfl) ?_
                conv => whnf
                refine And.intro (by (rw [filter_at _ hx, if_neg (by simp only [btw, decide_eq_true_eq]; omega), List.append_nil])) ?_
                conv => whnf
                refine And.intro (by with_reducible rfl) ?_
                conv => whnf
                refine And.intro (by with_reducible rfl) ?_
                conv => whnf
                refine And.intro (by (simp only [wrap_i64, wrap_u64, wrap_u32, wrap_u16, wrap_u8, maxLen_eq, mmI] at *; omega)) ?_
                exact True.intro
          · replace hc3 := of_decide_eq_true hc3
            conv => whnf
            refine br_r rfl rfl ?_
            conv => whnf
            refine br_r rfl rfl ?_
            conv => whnf
            refine br_r rfl rfl ?_
            conv => whnf
            refine br_r rfl rfl ?_
            conv => whnf
            refine br_r rfl rfl ?_
            conv => whnf
            refine br_l rfl rfl ?_
            conv => whnf
            refine br_l rfl rfl ?_
            conv => whnf
            refine ihl0 (i + 1) _ ?_ ?_ (st_of ?_)
            · (simp only [map_rows] at *; omega)
            · (simp only [map_rows] at *; omega)
            · conv => whnf
              refine And.intro (by with_reducible rfl) ?_
              conv => whnf
              refine And.intro (by with_reducible rfl) ?_
              conv => whnf
              refine And.intro (by with_reducible rfl) ?_
              conv => whnf
              refine And.intro (by with_reducible rfl) ?_
              conv => whnf
              refine And.intro (by (have := flen_le l i (btw a b); rw [filter_at _ hx, if_pos (by simp only [btw, decide_eq_true_eq]; omega)]; simp only [wrap_i64, List.length_append, List.length_cons, List.length_nil]; omega)) ?_
              conv => whnf
              refine And.intro (by with_reducible rfl) ?_
              conv => whnf
              refine And.intro (by with_reducible rfl) ?_
              conv => whnf
              refine And.intro (by (simp only [wrap_i64, wrap_u64, wrap_u32, wrap_u16, wrap_u8, maxLen_eq, mmI] at *; omega)) ?_
              exact True.intro
        · replace hc2 := of_decide_eq_false hc2
          conv => whnf
          refine br_r rfl rfl ?_
          conv => whnf
          refine br_r rfl rfl ?_
          conv => whnf
          refine br_r rfl rfl ?_
          conv => whnf
          refine br_r rfl rfl ?_
          conv => whnf
          refine br_l rfl rfl ?_
          conv => whnf
          refine br_l rfl rfl ?_
          conv => whnf
          refine br_l rfl rfl ?_
          conv => whnf
          refine br_l rfl rfl ?_
          conv => whnf
          refine br_l rfl rfl ?_
          conv => whnf
          refine And.intro (fun hc6 => ?_) (fun hc6 => ?_)
          · replace hc6 := of_decide_eq_true hc6
            conv => whnf
            refine br_l rfl rfl ?_
            conv => whnf
            refine br_l rfl rfl ?_
            conv => whnf
            refine br_l rfl rfl ?_
            conv => whnf
            refine br_l rfl rfl ?_
            conv => whnf
            refine br_l rfl rfl ?_
            conv => whnf
            refine br_r rfl rfl ?_
            conv => whnf
            refine And.intro (fun hc7 => ?_) (fun hc7 => ?_)
            · replace hc7 := of_decide_eq_true hc7
              conv => whnf
              refine ihl0 (i + 1) _ ?_ ?_ (st_of ?_)
              · (simp only [map_rows] at *; omega)
              · (simp only [map_rows] at *; omega)
              · conv => whnf
                refine And.intro (by with_reducible rfl) ?_
                conv => whnf
                refine And.intro (by with_reducible rfl) ?_
                conv => whnf
                refine And.intro (by with_reducible rfl) ?_
                conv => whnf
                refine And.intro (by with_reducible rfl) ?_
                conv => whnf
                refine And.intro (by (have := flen_le l i (btw a b); rw [filter_at _ hx, if_pos (by simp only [btw, decide_eq_true_eq]; omega)]; simp only [wrap_i64, List.length_append, List.length_cons, List.length_nil]; omega)) ?_
                conv => whnf
                refine And.intro (by with_reducible rfl) ?_
                conv => whnf
                refine And.intro (by with_reducible rfl) ?_
                conv => whnf
                refine And.intro (by (simp only [wrap_i64, wrap_u64, wrap_u32, wrap_u16, wrap_u8, maxLen_eq, mmI] at *; omega)) ?_
                exact True.intro
            · replace hc7 := of_decide_eq_false hc7
              conv => whnf
              refine ihl0 (i + 1) _ ?_ ?_ (st_of ?_)
              · (simp only [map_rows] at *; omega)
              · (simp only [map_rows] at *; omega)
              · conv => whnf
                refine And.intro (by with_reducible rfl) ?_
                conv => whnf
                refine And.intro (by with_reducible rfl) ?_
                conv => whnf
                refine And.intro (by with_reducible rfl) ?_
                conv => whnf
                refine And.intro (by with_reducible rfl) ?_
                conv => whnf
                refine And.intro (by (rw [filter_at _ hx, if_neg (by simp only [btw, decide_eq_true_eq]; omega), List.append_nil])) ?_
                conv => whnf
                refine And.intro (by with_reducible rfl) ?_
                conv => whnf
                refine And.intro (by with_reducible rfl) ?_
                conv => whnf
                refine And.intro (by (simp only [wrap_i64, wrap_u64, wrap_u32, wrap_u16, wrap_u8, maxLen_eq, mmI] at *; omega)) ?_
                exact True.intro
          · replace hc6 := of_decide_eq_false hc6
            conv => whnf
            refine br_r rfl rfl ?_
            conv => whnf
            refine br_r rfl rfl ?_
            conv => whnf
            refine br_r rfl rfl ?_
            conv => whnf
            refine br_l rfl rfl ?_
            conv => whnf
            refine br_r rfl rfl ?_
            conv => whnf
            refine br_r rfl rfl ?_
            conv => whnf
            refine br_r rfl rfl ?_
            conv => whnf
            refine ihl0 (i + 1) _ ?_ ?_ (st_of ?_)
            · (simp only [map_rows] at *; omega)
            · (simp only [map_rows] at *; omega)
            · conv => whnf
              refine And.intro (by with_reducible rfl) ?_
              conv => whnf
              refine And.intro (by with_reducible rfl) ?_
              conv => whnf
              refine And.intro (by with_reducible rfl) ?_
              conv => whnf
              refine And.intro (by with_reducible rfl) ?_
              conv => whnf
              refine And.intro (by (rw [filter_at _ hx, if_neg (by simp only [btw, decide_eq_true_eq]; omega), List.append_nil])) ?_
              conv => whnf
              refine And.intro (by with_reducible rfl) ?_
              conv => whnf
              refine And.intro (by with_reducible rfl) ?_
              conv => whnf
              refine And.intro (by (simp only [wrap_i64, wrap_u64, wrap_u32, wrap_u16, wrap_u8, maxLen_eq, mmI] at *; omega)) ?_
              exact True.intro
    · replace hc0 := of_decide_eq_false hc0
      conv => whnf
      refine AV.of_eqv ?_
      conv => whnf
      refine And.intro (by (rw [take_end (by simp only [map_rows] at *; omega)])) ?_
      exact True.intro
theorem awake40_good : Good Try.prog 56 [] (.bool true) := by
  apply good_at ak56 rfl rfl rfl
  conv => whnf
  apply ex_and
  · apply good_at ak57 rfl rfl rfl
    conv => whnf
    refine br_l rfl rfl ?_
    conv => whnf
    refine br_l rfl rfl ?_
    conv => whnf
    refine br_l rfl rfl ?_
    conv => whnf
    refine br_l rfl rfl ?_
    conv => whnf
    refine br_l rfl rfl ?_
    conv => whnf
    refine br_l rfl rfl ?_
    conv => whnf
    refine br_l rfl rfl ?_
    conv => whnf
    refine br_r rfl rfl ?_
    conv => whnf
    apply ex_and
    · apply good_at ak107 rfl rfl rfl
      conv => whnf
      refine And.intro (by decide) ?_
      refine And.intro (by decide) ?_
      refine And.intro (by decide) ?_
      refine And.intro (by decide) ?_
      conv => whnf
      refine And.intro (by decide) ?_
      refine And.intro (by decide) ?_
      refine And.intro (by decide) ?_
      conv => whnf
      refine And.intro (by decide) ?_
      refine And.intro (by decide) ?_
      refine And.intro (by decide) ?_
      (conv => whnf) <;> with_reducible rfl
    · (conv => whnf) <;> with_reducible rfl
  · conv => whnf
    apply ex_and
    · apply good_at ak59 rfl rfl rfl
      conv => whnf
      refine br_l rfl rfl ?_
      conv => whnf
      refine br_l rfl rfl ?_
      conv => whnf
      refine br_l rfl rfl ?_
      conv => whnf
      refine br_l rfl rfl ?_
      conv => whnf
      refine br_r rfl rfl ?_
      conv => whnf
      refine br_r rfl rfl ?_
      conv => whnf
      refine And.intro (by decide) ?_
      conv => whnf
      refine And.intro (by with_reducible rfl) ?_
      refine And.intro (by decide) ?_
      refine And.intro (by decide) ?_
      refine And.intro (by decide) ?_
      conv => whnf
      refine And.intro (by decide) ?_
      refine And.intro (by decide) ?_
      refine And.intro (by decide) ?_
      conv => whnf
      apply ex_and
      · apply good_at ak107 rfl rfl rfl
        conv => whnf
        refine And.intro (by decide) ?_
        refine And.intro (by decide) ?_
        refine And.intro (by decide) ?_
        refine And.intro (by decide) ?_
        conv => whnf
        refine And.intro (by decide) ?_
        refine And.intro (by decide) ?_
        refine And.intro (by decide) ?_
        conv => whnf
        refine And.intro (by decide) ?_
        refine And.intro (by decide) ?_
        refine And.intro (by decide) ?_
        (conv => whnf) <;> with_reducible rfl
      · conv => whnf
        refine And.intro (by decide) ?_
        with_reducible refine ⟨_, rfl, ?_⟩
        (conv => whnf) <;> with_reducible rfl
    · conv => whnf
      apply ex_and
      · apply good_at ak61 rfl rfl rfl
        conv => whnf
        refine br_l rfl rfl ?_
        conv => whnf
        refine br_l rfl rfl ?_
        conv => whnf
        refine br_l rfl rfl ?_
        conv => whnf
        refine br_l rfl rfl ?_
        conv => whnf
        refine br_r rfl rfl ?_
        conv => whnf
        refine br_r rfl rfl ?_
        conv => whnf
        refine And.intro (by decide) ?_
        with_reducible refine ⟨_, rfl, ?_⟩
        conv => whnf
        apply ex_and
        · apply good_at ak57 rfl rfl rfl
          conv => whnf
          refine br_l rfl rfl ?_
          conv => whnf
          refine br_l rfl rfl ?_
          conv => whnf
          refine br_l rfl rfl ?_
          conv => whnf
          refine br_l rfl rfl ?_
          conv => whnf
          refine br_l rfl rfl ?_
          conv => whnf
          refine br_l rfl rfl ?_
          conv => whnf
          refine br_l rfl rfl ?_
          conv => whnf
          refine br_r rfl rfl ?_
          conv => whnf
          apply ex_and
          · apply good_at ak107 rfl rfl rfl
            conv => whnf
            refine And.intro (by decide) ?_
            refine And.intro (by decide) ?_
            refine And.intro (by decide) ?_
            refine And.intro (by decide) ?_
            conv => whnf
            refine And.intro (by decide) ?_
            refine And.intro (by decide) ?_
            refine And.intro (by decide) ?_
            conv => whnf
            refine And.intro (by decide) ?_
            refine And.intro (by decide) ?_
            refine And.intro (by decide) ?_
            (conv => whnf) <;> with_reducible rfl
          · (conv => whnf) <;> with_reducible rfl
        · (conv => whnf) <;> with_reducible rfl
      · conv => whnf
        apply ex_and
        · apply good_at ak61 rfl rfl rfl
          conv => whnf
          refine br_l rfl rfl ?_
          conv => whnf
          refine br_l rfl rfl ?_
          conv => whnf
          refine br_l rfl rfl ?_
          conv => whnf
          refine br_l rfl rfl ?_
          conv => whnf
          refine br_r rfl rfl ?_
          conv => whnf
          refine br_l rfl rfl ?_
          (conv => whnf) <;> with_reducible rfl
        · conv => whnf
          apply ex_and
          · apply good_at ak59 rfl rfl rfl
            conv => whnf
            refine br_r rfl rfl ?_
            conv => whnf
            refine br_r rfl rfl ?_
            conv => whnf
            refine br_r rfl rfl ?_
            conv => whnf
            refine br_r rfl rfl ?_
            conv => whnf
            refine br_l rfl rfl ?_
            conv => whnf
            refine br_l rfl rfl ?_
            (conv => whnf) <;> with_reducible rfl
          · conv => whnf
            refine And.intro (by decide) ?_
            refine And.intro (by decide) ?_
            refine And.intro (by decide) ?_
            refine And.intro (by decide) ?_
            conv => whnf
            apply ex_and
            · apply good_at ak57 rfl rfl rfl
              conv => whnf
              refine br_l rfl rfl ?_
              conv => whnf
              refine br_l rfl rfl ?_
              conv => whnf
              refine br_l rfl rfl ?_
              conv => whnf
              refine br_l rfl rfl ?_
              conv => whnf
              refine br_l rfl rfl ?_
              conv => whnf
              refine br_l rfl rfl ?_
              conv => whnf
              refine br_l rfl rfl ?_
              conv => whnf
              refine br_l rfl rfl ?_
              (conv => whnf) <;> with_reducible rfl
            · conv => whnf
              refine br_l rfl rfl ?_
              conv => whnf
              refine br_l rfl rfl ?_
              conv => whnf
              refine br_l rfl rfl ?_
              conv => whnf
              refine br_r rfl rfl ?_
              conv => whnf
              refine br_r rfl rfl ?_
              conv => whnf
              refine br_l rfl rfl ?_
              conv => whnf
              refine br_l rfl rfl ?_
              conv => whnf
              refine br_l rfl rfl ?_
              conv => whnf
              refine br_l rfl rfl ?_
              conv => whnf
              refine br_l rfl rfl ?_
              conv => whnf
              refine br_l rfl rfl ?_
              conv => whnf
              refine br_l rfl rfl ?_
              conv => whnf
              refine br_l rfl rfl ?_
              conv => whnf
              refine br_l rfl rfl ?_
              conv => whnf
              refine And.intro (by decide) ?_
              with_reducible refine ⟨_, rfl, ?_⟩
              conv => whnf
              refine br_l rfl rfl ?_
              conv => whnf
              refine br_l rfl rfl ?_
              conv => whnf
              refine br_l rfl rfl ?_
              conv => whnf
              refine br_l rfl rfl ?_
              conv => whnf
              refine br_l rfl rfl ?_
              conv => whnf
              refine br_l rfl rfl ?_
              conv => whnf
              refine br_l rfl rfl ?_
              conv => whnf
              refine br_l rfl rfl ?_
              conv => whnf
              refine br_l rfl rfl ?_
              conv => whnf
              refine And.intro (by decide) ?_
              with_reducible refine ⟨_, rfl, ?_⟩
              conv => whnf
              refine br_l rfl rfl ?_
              conv => whnf
              refine br_l rfl rfl ?_
              conv => whnf
              refine br_l rfl rfl ?_
              conv => whnf
              refine br_l rfl rfl ?_
              conv => whnf
              refine br_l rfl rfl ?_
              conv => whnf
              refine br_l rfl rfl ?_
              conv => whnf
              refine br_l rfl rfl ?_
              conv => whnf
              refine br_l rfl rfl ?_
              conv => whnf
              refine br_l rfl rfl ?_
              conv => whnf
              refine br_l rfl rfl ?_
              conv => whnf
              refine br_l rfl rfl ?_
              conv => whnf
              refine br_l rfl rfl ?_
              conv => whnf
              refine br_l rfl rfl ?_
              conv => whnf
              refine br_l rfl rfl ?_
              conv => whnf
              refine br_l rfl rfl ?_
              conv => whnf
              apply ex_and
              · apply good_at ak65 rfl rfl rfl
                conv => whnf
                refine loop_run 300 ?_
                conv => whnf
                refine ⟨[], ?_⟩
                refine And.intro (by decide) ?_
                conv => whnf
                refine br_l rfl rfl ?_
                conv => whnf
                refine And.intro (by decide) ?_
                with_reducible refine ⟨_, rfl, ?_⟩
                conv => whnf
                refine br_r rfl rfl ?_
                conv => whnf
                refine br_r rfl rfl ?_
                conv => whnf
                refine br_r rfl rfl ?_
                conv => whnf
                refine br_r rfl rfl ?_
                conv => whnf
                refine br_r rfl rfl ?_
                conv => whnf
                refine br_l rfl rfl ?_
                conv => whnf
                refine br_l rfl rfl ?_
                conv => whnf
                refine br_l rfl rfl ?_
                conv => whnf
                refine br_l rfl rfl ?_
                conv => whnf
                refine br_l rfl rfl ?_
                conv => whnf
                refine br_l rfl rfl ?_
                conv => whnf
                refine br_l rfl rfl ?_
                conv => whnf
                refine br_l rfl rfl ?_
                conv => whnf
                refine br_l rfl rfl ?_
                conv => whnf
                refine br_l rfl rfl ?_
                conv => whnf
                refine br_l rfl rfl ?_
                conv => whnf
                refine br_r rfl rfl ?_
                conv => whnf
                refine br_l rfl rfl ?_
                conv => whnf
                refine ⟨[], ?_⟩
                refine And.intro (by decide) ?_
                conv => whnf
                refine br_l rfl rfl ?_
                conv => whnf
                refine And.intro (by decide) ?_
                with_reducible refine ⟨_, rfl, ?_⟩
                conv => whnf
                refine br_l rfl rfl ?_
                conv => whnf
                refine br_l rfl rfl ?_
                conv => whnf
                refine br_l rfl rfl ?_
                conv => whnf
                refine br_l rfl rfl ?_
                conv => whnf
                refine br_l rfl rfl ?_
                conv => whnf
                refine br_r rfl rfl ?_
                conv => whnf
                refine br_r rfl rfl ?_
                conv => whnf
                refine br_r rfl rfl ?_
                conv => whnf
                refine br_r rfl rfl ?_
                conv => whnf
                refine br_r rfl rfl ?_
                conv => whnf
                refine br_r rfl rfl ?_
                conv => whnf
                refine br_l rfl rfl ?_
                conv => whnf
                refine br_l rfl rfl ?_
                conv => whnf
                refine ⟨[], ?_⟩
                refine And.intro (by decide) ?_
                conv => whnf
                refine br_r rfl rfl ?_
                (conv => whnf) <;> with_reducible rfl
              · conv => whnf
                refine br_l rfl rfl ?_
                conv => whnf
                refine br_l rfl rfl ?_
                conv => whnf
                refine br_l rfl rfl ?_
                conv => whnf
                refine br_l rfl rfl ?_
                conv => whnf
                apply ex_and
                · apply good_at ak65 rfl rfl rfl
                  conv => whnf
                  refine loop_run 300 ?_
                  conv => whnf
                  refine ⟨[], ?_⟩
                  refine And.intro (by decide) ?_
                  conv => whnf
                  refine br_l rfl rfl ?_
                  conv => whnf
                  refine And.intro (by decide) ?_
                  with_reducible refine ⟨_, rfl, ?_⟩
                  conv => whnf
                  refine br_r rfl rfl ?_
                  conv => whnf
                  refine br_r rfl rfl ?_
                  conv => whnf
                  refine br_r rfl rfl ?_
                  conv => whnf
                  refine br_r rfl rfl ?_
                  conv => whnf
                  refine br_r rfl rfl ?_
                  conv => whnf
                  refine br_l rfl rfl ?_
                  conv => whnf
                  refine br_l rfl rfl ?_
                  conv => whnf
                  refine br_l rfl rfl ?_
                  conv => whnf
                  refine br_l rfl rfl ?_
                  conv => whnf
                  refine br_l rfl rfl ?_
                  conv => whnf
                  refine br_r rfl rfl ?_
                  conv => whnf
                  refine br_r rfl rfl ?_
                  conv => whnf
                  refine br_r rfl rfl ?_
                  conv => whnf
                  refine br_r rfl rfl ?_
                  conv => whnf
                  refine br_l rfl rfl ?_
                  conv => whnf
                  refine br_r rfl rfl ?_
                  conv => whnf
                  refine br_r rfl rfl ?_
                  conv => whnf
                  refine br_r rfl rfl ?_
                  conv => whnf
                  refine ⟨[], ?_⟩
                  refine And.intro (by decide) ?_
                  conv => whnf
                  refine br_l rfl rfl ?_
                  conv => whnf
                  refine And.intro (by decide) ?_
                  with_reducible refine ⟨_, rfl, ?_⟩
                  conv => whnf
                  refine br_l rfl rfl ?_
                  conv => whnf
                  refine br_l rfl rfl ?_
                  conv => whnf
                  refine br_l rfl rfl ?_
                  conv => whnf
                  refine br_l rfl rfl ?_
                  conv => whnf
                  refine br_l rfl rfl ?_
                  conv => whnf
                  refine br_l rfl rfl ?_
                  conv => whnf
                  refine br_l rfl rfl ?_
                  conv => whnf
                  refine br_l rfl rfl ?_
                  conv => whnf
                  refine br_l rfl rfl ?_
                  conv => whnf
                  refine br_l rfl rfl ?_
                  conv => whnf
                  refine br_r rfl rfl ?_
                  conv => whnf
                  refine br_r rfl rfl ?_
                  conv => whnf
                  refine br_r rfl rfl ?_
                  conv => whnf
                  refine br_r rfl rfl ?_
                  conv => whnf
                  refine br_l rfl rfl ?_
                  conv => whnf
                  refine br_r rfl rfl ?_
                  conv => whnf
                  refine br_r rfl rfl ?_
                  conv => whnf
                  refine br_r rfl rfl ?_
                  conv => whnf
                  refine ⟨[], ?_⟩
                  refine And.intro (by decide) ?_
                  conv => whnf
                  refine br_r rfl rfl ?_
                  (conv => whnf) <;> with_reducible rfl
                · conv => whnf
                  refine br_l rfl rfl ?_
                  conv => whnf
                  refine br_l rfl rfl ?_
                  conv => whnf
                  refine br_l rfl rfl ?_
                  conv => whnf
                  apply ex_and
                  · apply good_at ak67 rfl rfl rfl
                    (conv => whnf) <;> with_reducible rfl
                  · conv => whnf
                    refine br_l rfl rfl ?_
                    conv => whnf
                    refine br_l rfl rfl ?_
                    conv => whnf
                    refine br_l rfl rfl ?_
                    conv => whnf
                    refine br_l rfl rfl ?_
                    conv => whnf
                    refine br_l rfl rfl ?_
                    conv => whnf
                    apply ex_and
                    · apply good_at ak64 rfl rfl rfl
                      conv => whnf
                      apply ex_and
                      · apply good_at ak108 rfl rfl rfl
                        conv => whnf
                        refine br_r rfl rfl ?_
                        conv => whnf
                        refine loop_run 300 ?_
                        conv => whnf
                        refine ⟨[], ?_⟩
                        refine And.intro (by decide) ?_
                        conv => whnf
                        refine br_l rfl rfl ?_
                        conv => whnf
                        refine And.intro (by decide) ?_
                        conv => whnf
                        refine And.intro (by decide) ?_
                        with_reducible refine ⟨_, rfl, ?_⟩
                        conv => whnf
                        refine And.intro (by decide) ?_
                        with_reducible refine ⟨_, rfl, ?_⟩
                        conv => whnf
                        refine br_r rfl rfl ?_
                        conv => whnf
                        refine ⟨[], ?_⟩
                        refine And.intro (by decide) ?_
                        conv => whnf
                        refine br_l rfl rfl ?_
                        conv => whnf
                        refine And.intro (by decide) ?_
                        conv => whnf
                        refine And.intro (by decide) ?_
                        with_reducible refine ⟨_, rfl, ?_⟩
                        conv => whnf
                        refine And.intro (by decide) ?_
                        with_reducible refine ⟨_, rfl, ?_⟩
                        conv => whnf
                        refine br_r rfl rfl ?_
                        conv => whnf
                        refine ⟨[], ?_⟩
                        refine And.intro (by decide) ?_
                        conv => whnf
                        refine br_r rfl rfl ?_
                        (conv => whnf) <;> with_reducible rfl
                      · (conv => whnf) <;> with_reducible rfl
                    · conv => whnf
                      refine br_l rfl rfl ?_
                      conv => whnf
                      refine br_l rfl rfl ?_
                      conv => whnf
                      refine br_l rfl rfl ?_
                      conv => whnf
                      refine br_l rfl rfl ?_
                      conv => whnf
                      apply ex_and
                      · apply good_at ak64 rfl rfl rfl
                        conv => whnf
                        apply ex_and
                        · apply good_at ak108 rfl rfl rfl
                          conv => whnf
                          refine br_l rfl rfl ?_
                          (conv => whnf) <;> with_reducible rfl
                        · (conv => whnf) <;> with_reducible rfl
                      · conv => whnf
                        refine br_l rfl rfl ?_
                        conv => whnf
                        refine br_l rfl rfl ?_
                        conv => whnf
                        refine AV.of_eqv ?_
                        conv => whnf
                        refine And.intro (by decide) ?_
                        exact True.intro
end Go.Proofs.Ytmchbkmenokkdaa

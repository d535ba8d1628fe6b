/- Parts: what may be sent. -/
import Derived.Test.YtkcdeefnkbbacaaW08c
import Derived.Test.YtkcdeefnkbbacaaW07b
set_option maxRecDepth 100000
set_option linter.unusedSimpArgs false
set_option linter.unusedVariables false
namespace Go.Proofs.Ytkcdeefnkbbacaa
open Go.RowKit
set_option maxHeartbeats 4000000
abbrev eT (f a b c d s : Int) (m : Bool) (l : List It) : AV := .agg [.int .i64 f, .int .u32 a, .int .u32 b, .int .u32 c, .int .u32 d, .int .i64 s, .bool m, .sl .sh 4 (l.map it)]
def AV.deep : AV → AV
  | .agg cs => .agg (cs.map AV.share)
  | a => a.share
theorem Rd.deep {I : Cells} {w : World} {a : AV} {v : Value} (h : Rd I w a v) : Rd I w a.deep v := by
  cases a with
  | agg cs =>
    cases h with
    | agg cs vs hl h1 h =>
      refine .agg _ vs (by rw [List.length_map]; exact hl) h1 fun k c v hc hv => ?_
      rw [List.getElem?_map] at hc
      obtain ⟨c', hc', rfl⟩ := Option.map_eq_some_iff.1 hc
      exact (h k c' v hc' hv).share
  | _ => exact Rd.share h
/-- a contract for what is read alone serves what is the caller's own -/
theorem Good.deep {P : Program} {f : FuncId} {xs : List AV} {r : AV} (h : Good P f (xs.map AV.deep) r) : Good P f xs r :=
  ⟨fun w I vs hI ha => h.out w I vs hI ⟨by rw [List.length_map]; exact ha.1, fun i c u hc hu => by
    rw [List.getElem?_map] at hc
    obtain ⟨c', hc', rfl⟩ := Option.map_eq_some_iff.1 hc
    exact (ha.2 i c' u hc' hu).deep⟩⟩
theorem body_good (l : List It) (hl : l.length ≤ 1000000) (hd : ∀ x ∈ l, u32b x.2.2.1) : Good Try.prog 99 [.sl .sh 4 (l.map it)] (.tuple [.str (all l).1, .bool (decide ((all l).2 = 0 ∧ (all l).1.length ≤ 40))]) := by
  apply good_at ak99 rfl rfl rfl
  conv => whnf
  refine ⟨_, (all_good l) ?_ ?_, ?_⟩
  · assumption
  · assumption
  · conv => whnf
    refine And.intro (fun hc0 => ?_) (fun hc0 => ?_)
    · replace hc0 := of_decide_eq_true hc0
      conv => whnf
      refine br_l rfl rfl ?_
      conv => whnf
      refine br_l rfl rfl ?_
      conv => whnf
      refine br_l rfl rfl ?_
      conv => whnf
      refine AV.of_eqv ?_
      conv => whnf
      refine And.intro (by with_reducible rfl) ?_
      conv => whnf
      refine And.intro (by exact decide_eq_decide.2 (by omega)) ?_
      exact True.intro
    · replace hc0 := of_decide_eq_false hc0
      conv => whnf
      refine br_r rfl rfl ?_
      conv => whnf
      refine br_r rfl rfl ?_
      conv => whnf
      refine br_r rfl rfl ?_
      conv => whnf
      refine AV.of_eqv ?_
      conv => whnf
      refine And.intro (by with_reducible rfl) ?_
      conv => whnf
      refine And.intro (by exact (decide_eq_false (by omega)).symm) ?_
      exact True.intro
abbrev okT (f s : Int) (l : List It) : Prop := ((all l).2 = 0 ∧ (all l).1.length ≤ 40) ∧ 0 ≤ f ∧ f < 16 ∧ 0 ≤ s ∧ s ≤ 65535
theorem tright_good (f a b c d s : Int) (m : Bool) (l : List It) (hl : l.length ≤ 1000000) (hd : ∀ x ∈ l, u32b x.2.2.1) : Good Try.prog 32 [eT f a b c d s m l] (.bool (decide (okT f s l))) := by
  apply good_at ak32 rfl rfl rfl
  conv => whnf
  refine ⟨_, (body_good l) ?_ ?_, ?_⟩
  · assumption
  · assumption
  · conv => whnf
    refine And.intro (fun hc0 => ?_) (fun hc0 => ?_)
    · replace hc0 := of_decide_eq_true hc0
      conv => whnf
      refine br_l rfl rfl ?_
      conv => whnf
      refine br_l rfl rfl ?_
      conv => whnf
      refine ⟨_, right3_good _, ?_⟩
      conv => whnf
      refine br_l rfl rfl ?_
      conv => whnf
      refine And.intro (fun hc1 => ?_) (fun hc1 => ?_)
      · replace hc1 := of_decide_eq_true hc1
        conv => whnf
        refine br_l rfl rfl ?_
        conv => whnf
        refine br_l rfl rfl ?_
        conv => whnf
        refine br_l rfl rfl ?_
        conv => whnf
        refine And.intro (fun hc2 => ?_) (fun hc2 => ?_)
        · replace hc2 := of_decide_eq_true hc2
          conv => whnf
          refine br_l rfl rfl ?_
          conv => whnf
          refine br_l rfl rfl ?_
          conv => whnf
          refine br_l rfl rfl ?_
          conv => whnf
          refine AV.of_eqv ?_
          conv => whnf
          refine And.intro (by exact decide_eq_decide.2 (by omega)) ?_
          exact True.intro
        · replace hc2 := of_decide_eq_false hc2
          conv => whnf
          refine br_r rfl rfl ?_
          conv => whnf
          refine br_r rfl rfl ?_
          conv => whnf
          refine br_r rfl rfl ?_
          conv => whnf
          refine AV.of_eqv ?_
          conv => whnf
          refine And.intro (by exact (decide_eq_false (by omega)).symm) ?_
          exact True.intro
      · replace hc1 := of_decide_eq_false hc1
        conv => whnf
        refine br_r rfl rfl ?_
        conv => whnf
        refine br_r rfl rfl ?_
        conv => whnf
        refine br_r rfl rfl ?_
        conv => whnf
        refine br_r rfl rfl ?_
        conv => whnf
        refine br_r rfl rfl ?_
        conv => whnf
        refine br_r rfl rfl ?_
        conv => whnf
        refine br_r rfl rfl ?_
        conv => whnf
        refine AV.of_eqv ?_
        conv => whnf
        refine And.intro (by exact (decide_eq_false (by omega)).symm) ?_
        exact True.intro
    · replace hc0 := of_decide_eq_false hc0
      conv => whnf
      refine br_r rfl rfl ?_
      conv => whnf
      refine br_r rfl rfl ?_
      conv => whnf
      refine br_r rfl rfl ?_
      conv => whnf
      refine br_r rfl rfl ?_
      conv => whnf
      refine br_r rfl rfl ?_
      conv => whnf
      refine br_r rfl rfl ?_
      conv => whnf
      refine br_r rfl rfl ?_
      conv => whnf
      refine br_r rfl rfl ?_
      conv => whnf
      refine br_r rfl rfl ?_
      conv => whnf
      refine br_r rfl rfl ?_
      conv => whnf
      refine br_r rfl rfl ?_
      conv => whnf
      refine AV.of_eqv ?_
      conv => whnf
      refine And.intro (by exact (decide_eq_false (by omega)).symm) ?_
      exact True.intro
end Go.Proofs.Ytkcdeefnkbbacaa

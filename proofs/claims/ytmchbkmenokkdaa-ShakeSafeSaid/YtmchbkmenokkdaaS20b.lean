/- The two laws of chapter 20: three hellos, what the example says, and the laws themselves. -/
import Derived.Test.YtmchbkmenokkdaaS20
set_option maxRecDepth 100000
namespace Go.Proofs.Ytmchbkmenokkdaa
open Go.RowKit
set_option maxHeartbeats 4000000
theorem Good.eq {P : Program} {f : FuncId} {args : List AV} {r r' : AV} (h : Good P f args r) (he : r = r') : Good P f args r' := he ▸ h
theorem hear1 (x a b c d : Int) (hx : 0 ≤ x ∧ x < 16) (h1 : 0 ≤ a) (h2 : 0 ≤ b) (hab : ¬ (a = 0 ∧ b = 0)) (hcd : ¬ (c = 0 ∧ d = 0)) : Good Try.prog 48 [eP 1 c d 0 0 0 0, eH x a b 0 0] (.tuple [eP 1 c d a b 0 0, .int .i64 0]) := by
  have e1 : ¬ hOff 1 x a b := by unfold hOff; omega
  have e2 : hUpd 1 0 0 x a b := by unfold hUpd nw; refine ⟨e1, ?_, ?_⟩ <;> omega
  have e3 : ¬ hUp 1 c d 0 0 x a b 0 0 := by unfold hUp; omega
  have e4 : ¬ nw 0 0 a b := e2.2.1
  exact (hear_good ..).eq (by simp only [hearR, if_pos e2, if_neg e3, if_neg e1, if_neg e4])
theorem hear2 (x a b c d e f : Int) (hx : 0 ≤ x ∧ x < 16) (h1 : (e = 0 ∧ f = 0 ∧ 0 ≤ c ∧ 0 ≤ d) ∨ (e = c ∧ f = d)) (hab : ¬ (a = 0 ∧ b = 0)) (hcd : ¬ (c = 0 ∧ d = 0)) : Good Try.prog 48 [eP 1 a b e f 0 0, eH x c d a b] (.tuple [eP 2 a b c d 0 0, .int .i64 1]) := by
  have e1 : ¬ hOff 1 x c d := by unfold hOff; omega
  have e2 : hUpd 1 e f x c d := by unfold hUpd nw; refine ⟨e1, ?_, ?_⟩ <;> omega
  have e3 : hUp 1 a b e f x c d a b := by unfold hUp; exact ⟨e2, rfl, rfl, rfl, hab⟩
  exact (hear_good ..).eq (by simp only [hearR, if_pos e2, if_pos e3])
theorem shaken_good (a b c d : Int) (h1 : 0 ≤ a ∧ 0 ≤ b) (h2 : 0 ≤ c ∧ 0 ≤ d) (hab : ¬ (a = 0 ∧ b = 0)) (hcd : ¬ (c = 0 ∧ d = 0)) : Good Try.prog 51 [eE a b, eE c d] (.tuple [eP 2 a b c d 0 0, eP 2 c d a b 0 0, .bool true]) := by
  refine good_at ak51 rfl rfl rfl ?_
  conv => whnf
  refine And.intro (by exact rfl) ?_
  conv => whnf
  refine ⟨_, snew_good, ?_⟩
  conv => whnf
  refine ⟨_, begin_good _ _ _ _ _ _ _ _ _ _ _, ?_⟩
  conv => whnf
  refine And.intro (by exact rfl) ?_
  conv => whnf
  refine ⟨_, snew_good, ?_⟩
  conv => whnf
  refine ⟨_, begin_good _ _ _ _ _ _ _ _ _ _ _, ?_⟩
  conv => whnf
  refine And.intro (by exact rfl) ?_
  conv => whnf
  refine ⟨_, told_good _ _ _ _ _ _ _ _, ?_⟩
  conv => whnf
  refine ⟨_, hear1 _ _ _ _ _ ?_ ?_ ?_ ?_ ?_, ?_⟩
  · decide
  · omega
  · omega
  · assumption
  · assumption
  · conv => whnf
    refine And.intro (by exact rfl) ?_
    conv => whnf
    refine ⟨_, told_good _ _ _ _ _ _ _ _, ?_⟩
    conv => whnf
    refine ⟨_, hear2 _ _ _ _ _ _ _ ?_ ?_ ?_ ?_, ?_⟩
    · decide
    · omega
    · assumption
    · assumption
    · conv => whnf
      refine And.intro (by exact rfl) ?_
      conv => whnf
      refine ⟨_, told_good _ _ _ _ _ _ _ _, ?_⟩
      conv => whnf
      refine ⟨_, hear2 _ _ _ _ _ _ _ ?_ ?_ ?_ ?_, ?_⟩
      · decide
      · omega
      · assumption
      · assumption
      · conv => whnf
        refine And.intro (by exact rfl) ?_
        conv => whnf
        refine br_l rfl rfl ?_
        conv => whnf
        refine br_l rfl rfl ?_
        conv => whnf
        refine br_l rfl rfl ?_
        conv => whnf
        refine br_l rfl rfl ?_
        conv => whnf
        refine br_l rfl rfl ?_
        conv => whnf
        refine br_l rfl rfl ?_
        conv => whnf
        refine AV.of_eqv ?_
        conv => whnf
        refine And.intro (by with_reducible rfl) ?_
        conv => whnf
        refine And.intro (by with_reducible rfl) ?_
        conv => whnf
        refine And.intro (by with_reducible rfl) ?_
        conv => whnf
        refine And.intro (by with_reducible rfl) ?_
        conv => whnf
        refine And.intro (by with_reducible rfl) ?_
        conv => whnf
        refine And.intro (by with_reducible rfl) ?_
        conv => whnf
        refine And.intro (by with_reducible rfl) ?_
        conv => whnf
        refine And.intro (by with_reducible rfl) ?_
        conv => whnf
        refine And.intro (by with_reducible rfl) ?_
        conv => whnf
        refine And.intro (by with_reducible rfl) ?_
        conv => whnf
        refine And.intro (by with_reducible rfl) ?_
        conv => whnf
        refine And.intro (by with_reducible rfl) ?_
        conv => whnf
        refine And.intro (by with_reducible rfl) ?_
        conv => whnf
        refine And.intro (by with_reducible rfl) ?_
        conv => whnf
        refine And.intro (by with_reducible rfl) ?_
        conv => whnf
        refine And.intro (by with_reducible rfl) ?_
        conv => whnf
        refine And.intro (by with_reducible rfl) ?_
        conv => whnf
        refine And.intro (by with_reducible rfl) ?_
        conv => whnf
        refine And.intro (by with_reducible rfl) ?_
        conv => whnf
        refine And.intro (by with_reducible rfl) ?_
        conv => whnf
        refine And.intro (by with_reducible rfl) ?_
        conv => whnf
        refine And.intro (by with_reducible rfl) ?_
        conv => whnf
        refine And.intro (by with_reducible rfl) ?_
        conv => whnf
        refine And.intro (by with_reducible rfl) ?_
        conv => whnf
        refine And.intro (by decide) ?_
        exact True.intro
theorem hearOff (a b c d q w x h1 h2 h3 h4 : Int) : Good Try.prog 48 [eP 0 a b c d q w, eH x h1 h2 h3 h4] (.tuple [eP 0 a b c d q w, .int .i64 0]) := by
  have e1 : hOff 0 x h1 h2 := by unfold hOff; omega
  have e2 : ¬ hUpd 0 c d x h1 h2 := fun h => h.1 e1
  have e3 : ¬ hUp 0 a b c d x h1 h2 h3 h4 := fun h => e2 h.1
  exact (hear_good ..).eq (by simp only [hearR, if_pos e1, if_neg e2, if_neg e3])
theorem hearOld (st a b c d q w x h1 h2 h3 h4 : Int) (e1 : ¬ hOff st x h1 h2) (e4 : nw c d h1 h2) : Good Try.prog 48 [eP st a b c d q w, eH x h1 h2 h3 h4] (.tuple [eP st a b c d q w, .int .i64 3]) := by
  have e2 : ¬ hUpd st c d x h1 h2 := fun h => h.2.1 e4
  have e3 : ¬ hUp st a b c d x h1 h2 h3 h4 := fun h => e2 h.1
  exact (hear_good ..).eq (by simp only [hearR, if_neg e1, if_neg e2, if_neg e3, if_pos e4])
theorem hearDown (a b c d q w x h1 h2 h3 h4 : Int) (e1 : ¬ hOff 2 x h1 h2) (e4 : nw h1 h2 c d) : Good Try.prog 48 [eP 2 a b c d q w, eH x h1 h2 h3 h4] (.tuple [eP 2 a b c d q w, .int .i64 2]) := by
  have e5 : ¬ nw c d h1 h2 := by unfold nw at *; omega
  have e2 : ¬ hUpd 2 c d x h1 h2 := fun h => h.2.2 ⟨rfl, e4⟩
  have e3 : ¬ hUp 2 a b c d x h1 h2 h3 h4 := fun h => e2 h.1
  exact (hear_good ..).eq (by simp only [hearR, if_neg e1, if_neg e2, if_neg e3, if_neg e5])
theorem awake20_good : Good Try.prog 45 [] (.bool true) := by
  refine good_at ak45 rfl rfl rfl ?_
  conv => whnf
  refine ⟨_, ep_good _ _, ?_⟩
  conv => whnf
  refine ⟨_, ep_good _ _, ?_⟩
  conv => whnf
  refine ⟨_, shaken_good _ _ _ _ ?_ ?_ ?_ ?_, ?_⟩
  · decide
  · decide
  · decide
  · decide
  · conv => whnf
    refine And.intro (by decide) ?_
    conv => whnf
    refine ⟨_, ep_good _ _, ?_⟩
    conv => whnf
    refine ⟨_, hearOld _ _ _ _ _ _ _ _ _ _ _ _ ?_ ?_, ?_⟩
    · decide
    · decide
    · conv => whnf
      refine And.intro (by decide) ?_
      conv => whnf
      refine ⟨_, ep_good _ _, ?_⟩
      conv => whnf
      refine ⟨_, hearDown _ _ _ _ _ _ _ _ _ _ _ ?_ ?_, ?_⟩
      · decide
      · decide
      · conv => whnf
        refine And.intro (by decide) ?_
        conv => whnf
        refine ⟨_, snew_good, ?_⟩
        conv => whnf
        refine ⟨_, told_good _ _ _ _ _ _ _ _, ?_⟩
        conv => whnf
        refine ⟨_, hearOff _ _ _ _ _ _ _ _ _ _ _, ?_⟩
        conv => whnf
        refine And.intro (by decide) ?_
        conv => whnf
        refine br_l rfl rfl ?_
        conv => whnf
        refine br_l rfl rfl ?_
        conv => whnf
        refine br_l rfl rfl ?_
        conv => whnf
        refine br_l rfl rfl ?_
        conv => whnf
        refine br_l rfl rfl ?_
        conv => whnf
        refine br_l rfl rfl ?_
        conv => whnf
        refine br_l rfl rfl ?_
        conv => whnf
        refine br_l rfl rfl ?_
        conv => whnf
        refine br_l rfl rfl ?_
        conv => whnf
        refine br_l rfl rfl ?_
        conv => whnf
        refine br_l rfl rfl ?_
        conv => whnf
        refine ⟨_, pair_good _ _ _ _ _ _ _, ?_⟩
        conv => whnf
        refine br_l rfl rfl ?_
        conv => whnf
        refine ⟨_, holds_good _ _ _ _ _ _ _ _ _ _ _, ?_⟩
        conv => whnf
        refine br_l rfl rfl ?_
        conv => whnf
        refine br_l rfl rfl ?_
        conv => whnf
        refine br_l rfl rfl ?_
        conv => whnf
        refine br_l rfl rfl ?_
        conv => whnf
        refine ⟨_, pair_good _ _ _ _ _ _ _, ?_⟩
        conv => whnf
        refine br_l rfl rfl ?_
        conv => whnf
        refine ⟨_, holds_good _ _ _ _ _ _ _ _ _ _ _, ?_⟩
        conv => whnf
        refine br_l rfl rfl ?_
        conv => whnf
        refine br_l rfl rfl ?_
        conv => whnf
        refine br_l rfl rfl ?_
        conv => whnf
        refine br_l rfl rfl ?_
        conv => whnf
        refine br_l rfl rfl ?_
        conv => whnf
        refine br_l rfl rfl ?_
        conv => whnf
        refine br_l rfl rfl ?_
        conv => whnf
        refine br_l rfl rfl ?_
        conv => whnf
        refine br_l rfl rfl ?_
        conv => whnf
        refine br_l rfl rfl ?_
        conv => whnf
        refine br_l rfl rfl ?_
        conv => whnf
        refine ⟨_, same_good _ _ _ _ _ _ _ _ _ _ _ _ _ _, ?_⟩
        conv => whnf
        refine br_l rfl rfl ?_
        conv => whnf
        refine br_l rfl rfl ?_
        conv => whnf
        refine br_l rfl rfl ?_
        conv => whnf
        refine br_l rfl rfl ?_
        conv => whnf
        refine br_l rfl rfl ?_
        conv => whnf
        refine br_l rfl rfl ?_
        conv => whnf
        refine br_l rfl rfl ?_
        conv => whnf
        refine ⟨_, same_good _ _ _ _ _ _ _ _ _ _ _ _ _ _, ?_⟩
        conv => whnf
        refine br_l rfl rfl ?_
        conv => whnf
        refine br_l rfl rfl ?_
        conv => whnf
        refine AV.of_eqv ?_
        conv => whnf
        refine And.intro (by decide) ?_
        exact True.intro
theorem next1 (a b : Int) (h : b = 4294967295) : Good Try.prog 54 [eE a b] (.tuple [eE 0 0, .int .i64 11]) := (next_good a b).eq (by simp only [if_pos h])
theorem next2 (a b : Int) (h : b ≠ 4294967295) (h0 : 0 ≤ b ∧ b ≤ 4294967295) : Good Try.prog 54 [eE a b] (.tuple [eE a (b + 1), .int .i64 0]) := (next_good a b).eq (by
  simp only [if_neg h]
  rw [show IntKind.u32.wrap (b + 1) = b + 1 by rw [wrap_u32]; omega])
theorem shakeMeets_good (a b c d : Int) (h1 : 0 ≤ a ∧ 0 ≤ b) (h2 : 0 ≤ c ∧ 0 ≤ d ∧ d ≤ 4294967295) : Good Try.prog 9 [eE a b, eE c d] (.bool true) := by
  by_cases hd : d = 4294967295
  · refine good_at ak9 rfl rfl rfl ?_
    conv => whnf
    refine ⟨_, none_good _ _, ?_⟩
    conv => whnf
    refine And.intro (fun hc0 => ?_) (fun hc0 => ?_)
    · replace hc0 := of_decide_eq_false hc0
      conv => whnf
      refine br_l rfl rfl ?_
      conv => whnf
      refine ⟨_, none_good _ _, ?_⟩
      conv => whnf
      refine br_r rfl rfl ?_
      conv => whnf
      refine And.intro (fun hc1 => ?_) (fun hc1 => ?_)
      · replace hc1 := of_decide_eq_true hc1
        (exfalso; omega)
      · replace hc1 := of_decide_eq_false hc1
        conv => whnf
        refine ⟨_, shaken_good _ _ _ _ ?_ ?_ ?_ ?_, ?_⟩
        · assumption
        · omega
        · assumption
        · assumption
        · conv => whnf
          refine And.intro (by exact rfl) ?_
          conv => whnf
          refine br_l rfl rfl ?_
          conv => whnf
          refine br_l rfl rfl ?_
          conv => whnf
          refine br_l rfl rfl ?_
          conv => whnf
          refine ⟨_, pair_good _ _ _ _ _ _ _, ?_⟩
          conv => whnf
          refine br_l rfl rfl ?_
          conv => whnf
          refine ⟨_, holds_good _ _ _ _ _ _ _ _ _ _ _, ?_⟩
          conv => whnf
          refine br_l rfl rfl ?_
          conv => whnf
          refine br_r rfl rfl ?_
          conv => whnf
          refine And.intro (fun hc2 => ?_) (fun hc2 => ?_)
          · replace hc2 := of_decide_eq_true (Bool.not_eq_false' _ |>.mp hc2)
            conv => whnf
            refine br_l rfl rfl ?_
            conv => whnf
            refine br_l rfl rfl ?_
            conv => whnf
            refine ⟨_, pair_good _ _ _ _ _ _ _, ?_⟩
            conv => whnf
            refine br_l rfl rfl ?_
            conv => whnf
            refine ⟨_, holds_good _ _ _ _ _ _ _ _ _ _ _, ?_⟩
            conv => whnf
            refine br_l rfl rfl ?_
            conv => whnf
            refine br_r rfl rfl ?_
            conv => whnf
            refine And.intro (fun hc3 => ?_) (fun hc3 => ?_)
            · replace hc3 := of_decide_eq_false (Bool.not_eq_true' _ |>.mp hc3)
              (exfalso; omega)
            · replace hc3 := of_decide_eq_true (Bool.not_eq_false' _ |>.mp hc3)
              conv => whnf
              refine ⟨_, next1 _ _ ?_, ?_⟩
              · assumption
              · conv => whnf
                refine br_l rfl rfl ?_
                conv => whnf
                refine ⟨_, awake20_good, ?_⟩
                conv => whnf
                refine AV.of_eqv ?_
                conv => whnf
                refine And.intro (by with_reducible rfl) ?_
                exact True.intro
          · replace hc2 := of_decide_eq_false (Bool.not_eq_true' _ |>.mp hc2)
            (exfalso; omega)
    · replace hc0 := of_decide_eq_true hc0
      conv => whnf
      refine br_r rfl rfl ?_
      conv => whnf
      refine br_l rfl rfl ?_
      conv => whnf
      refine br_l rfl rfl ?_
      conv => whnf
      refine ⟨_, awake20_good, ?_⟩
      conv => whnf
      refine AV.of_eqv ?_
      conv => whnf
      refine And.intro (by with_reducible rfl) ?_
      exact True.intro
  · refine good_at ak9 rfl rfl rfl ?_
    conv => whnf
    refine ⟨_, none_good _ _, ?_⟩
    conv => whnf
    refine And.intro (fun hc0 => ?_) (fun hc0 => ?_)
    · replace hc0 := of_decide_eq_false hc0
      conv => whnf
      refine br_l rfl rfl ?_
      conv => whnf
      refine ⟨_, none_good _ _, ?_⟩
      conv => whnf
      refine br_r rfl rfl ?_
      conv => whnf
      refine And.intro (fun hc1 => ?_) (fun hc1 => ?_)
      · replace hc1 := of_decide_eq_true hc1
        conv => whnf
        refine ⟨_, awake20_good, ?_⟩
        conv => whnf
        refine AV.of_eqv ?_
        conv => whnf
        refine And.intro (by with_reducible rfl) ?_
        exact True.intro
      · replace hc1 := of_decide_eq_false hc1
        conv => whnf
        refine ⟨_, shaken_good _ _ _ _ ?_ ?_ ?_ ?_, ?_⟩
        · assumption
        · omega
        · assumption
        · assumption
        · conv => whnf
          refine And.intro (by exact rfl) ?_
          conv => whnf
          refine br_l rfl rfl ?_
          conv => whnf
          refine br_l rfl rfl ?_
          conv => whnf
          refine br_l rfl rfl ?_
          conv => whnf
          refine ⟨_, pair_good _ _ _ _ _ _ _, ?_⟩
          conv => whnf
          refine br_l rfl rfl ?_
          conv => whnf
          refine ⟨_, holds_good _ _ _ _ _ _ _ _ _ _ _, ?_⟩
          conv => whnf
          refine br_l rfl rfl ?_
          conv => whnf
          refine br_r rfl rfl ?_
          conv => whnf
          refine And.intro (fun hc2 => ?_) (fun hc2 => ?_)
          · replace hc2 := of_decide_eq_true (Bool.not_eq_false' _ |>.mp hc2)
            conv => whnf
            refine br_l rfl rfl ?_
            conv => whnf
            refine br_l rfl rfl ?_
            conv => whnf
            refine ⟨_, pair_good _ _ _ _ _ _ _, ?_⟩
            conv => whnf
            refine br_l rfl rfl ?_
            conv => whnf
            refine ⟨_, holds_good _ _ _ _ _ _ _ _ _ _ _, ?_⟩
            conv => whnf
            refine br_l rfl rfl ?_
            conv => whnf
            refine br_r rfl rfl ?_
            conv => whnf
            refine And.intro (fun hc3 => ?_) (fun hc3 => ?_)
            · replace hc3 := of_decide_eq_false (Bool.not_eq_true' _ |>.mp hc3)
              (exfalso; omega)
            · replace hc3 := of_decide_eq_true (Bool.not_eq_false' _ |>.mp hc3)
              conv => whnf
              refine ⟨_, next2 _ _ ?_ ?_, ?_⟩
              · assumption
              · omega
              · conv => whnf
                refine br_r rfl rfl ?_
                conv => whnf
                refine ⟨_, begin_good _ _ _ _ _ _ _ _ _ _ _, ?_⟩
                conv => whnf
                refine And.intro (by exact rfl) ?_
                conv => whnf
                refine ⟨_, told_good _ _ _ _ _ _ _ _, ?_⟩
                conv => whnf
                refine ⟨_, hearDown _ _ _ _ _ _ _ _ _ _ _ ?_ ?_, ?_⟩
                · (unfold hOff; omega)
                · (unfold nw; omega)
                · conv => whnf
                  refine ⟨_, begin_good _ _ _ _ _ _ _ _ _ _ _, ?_⟩
                  conv => whnf
                  refine And.intro (by exact rfl) ?_
                  conv => whnf
                  refine ⟨_, told_good _ _ _ _ _ _ _ _, ?_⟩
                  conv => whnf
                  refine ⟨_, hearOld _ _ _ _ _ _ _ _ _ _ _ _ ?_ ?_, ?_⟩
                  · (unfold hOff; omega)
                  · (unfold nw; omega)
                  · conv => whnf
                    refine And.intro (by exact rfl) ?_
                    conv => whnf
                    refine br_l rfl rfl ?_
                    conv => whnf
                    refine br_l rfl rfl ?_
                    conv => whnf
                    refine br_l rfl rfl ?_
                    conv => whnf
                    refine br_l rfl rfl ?_
                    conv => whnf
                    refine br_l rfl rfl ?_
                    conv => whnf
                    refine br_l rfl rfl ?_
                    conv => whnf
                    refine ⟨_, pair_good _ _ _ _ _ _ _, ?_⟩
                    conv => whnf
                    refine br_l rfl rfl ?_
                    conv => whnf
                    refine ⟨_, holds_good _ _ _ _ _ _ _ _ _ _ _, ?_⟩
                    conv => whnf
                    refine br_l rfl rfl ?_
                    conv => whnf
                    refine br_l rfl rfl ?_
                    conv => whnf
                    refine And.intro (fun hc4 => ?_) (fun hc4 => ?_)
                    · replace hc4 := of_decide_eq_false (Bool.not_eq_true' _ |>.mp hc4)
                      conv => whnf
                      refine ⟨_, awake20_good, ?_⟩
                      conv => whnf
                      refine br_l rfl rfl ?_
                      conv => whnf
                      refine AV.of_eqv ?_
                      conv => whnf
                      refine And.intro (by with_reducible rfl) ?_
                      exact True.intro
                    · replace hc4 := of_decide_eq_true (Bool.not_eq_false' _ |>.mp hc4)
                      (exfalso; omega)
          · replace hc2 := of_decide_eq_false (Bool.not_eq_true' _ |>.mp hc2)
            (exfalso; omega)
    · replace hc0 := of_decide_eq_true hc0
      conv => whnf
      refine br_r rfl rfl ?_
      conv => whnf
      refine br_l rfl rfl ?_
      conv => whnf
      refine br_l rfl rfl ?_
      conv => whnf
      refine ⟨_, awake20_good, ?_⟩
      conv => whnf
      refine AV.of_eqv ?_
      conv => whnf
      refine And.intro (by with_reducible rfl) ?_
      exact True.intro
abbrev hrow (x : Int × Int × Int × Int × Int) : List AV := [.int .i64 x.1, .int .u32 x.2.1, .int .u32 x.2.2.1, .int .u32 x.2.2.2.1, .int .u32 x.2.2.2.2]
theorem hear_el {K : AV → Prop} (st a b c d q w x h1 h2 h3 h4 : Int) (h : ∀ st' c' d' q' came : Int, ¬ nw c d c' d' → (came = 1 → h3 = a ∧ h4 = b ∧ c' = h1 ∧ d' = h2 ∧ st = 1 ∧ st' = 2) → (came ≠ 1 → st' = st) → (st = 2 → c' = c ∧ d' = d) →
    K (.tuple [eP st' a b c' d' q' w, .int .i64 came])) : ∃ r, Good Try.prog 48 [eP st a b c d q w, eH x h1 h2 h3 h4] r ∧ K r := by
  refine ⟨_, hear_good st a b c d q w x h1 h2 h3 h4, h _ _ _ _ _ ?_ ?_ ?_ ?_⟩
  · by_cases e2 : hUpd st c d x h1 h2
    · simp only [if_pos e2]; exact e2.2.1
    · simp only [if_neg e2]; unfold nw; omega
  · by_cases e1 : hUp st a b c d x h1 h2 h3 h4
    · have e2 := e1.1
      simp only [if_pos e1, if_pos e2]
      obtain ⟨_, h5, h6, h7, _⟩ := e1
      exact fun _ => ⟨h6, h7, by trivial, by trivial, h5, by trivial⟩
    · simp only [if_neg e1]
      intro hc
      exfalso
      revert hc
      split
      · omega
      split
      · omega
      split <;> omega
  · by_cases e1 : hUp st a b c d x h1 h2 h3 h4
    · simp only [if_pos e1]; intro hc; exact absurd rfl hc
    · simp only [if_neg e1]; exact fun _ => by trivial
  · intro h2'
    by_cases e2 : hUpd st c d x h1 h2
    · simp only [if_pos e2]
      obtain ⟨_, h5, h6⟩ := e2
      unfold nw at *
      omega
    · simp only [if_neg e2]; exact ⟨trivial, trivial⟩
theorem shakeSafe_good (a b : Int) (l : List (Int × Int × Int × Int × Int)) (hl : l.length ≤ maxLen) : Good Try.prog 8 [eE a b, .sl .sh 5 (l.map hrow)] (.bool true) := by
  refine good_at ak8 rfl rfl rfl ?_
  conv => whnf
  refine And.intro (fun hc0 => ?_) (fun hc0 => ?_)
  · replace hc0 := of_decide_eq_true hc0
    conv => whnf
    refine ⟨_, awake20_good, ?_⟩
    conv => whnf
    refine AV.of_eqv ?_
    conv => whnf
    refine And.intro (by with_reducible rfl) ?_
    exact True.intro
  · replace hc0 := of_decide_eq_false hc0
    conv => whnf
    refine And.intro (by exact rfl) ?_
    conv => whnf
    refine ⟨_, snew_good, ?_⟩
    conv => whnf
    refine ⟨_, begin_good _ _ _ _ _ _ _ _ _ _ _, ?_⟩
    conv => whnf
    refine loop_at (α := Nat × Int × Int × Int × Int) (fun ⟨i, st, c, d, q⟩ => [(20, .int .i64 (i : Int))]) (fun ⟨i, st, c, d, q⟩ => [(1, some ⟨true, 12, [[.int .i64 st, .int .u32 a, .int .u32 b, .int .u32 c, .int .u32 d, .int .i64 q, .int .i64 0, .int .i64 0, .sl .sh 4 [], .int .i64 0, .sl .sh 8 [], .sl .sh 4 []]]⟩)]) (fun ⟨i, st, c, d, q⟩ => i ≤ l.length) (fun ⟨i, st, c, d, q⟩ => l.length - i) ((0, 1, 0, 0, 0)) (st_of ?_) ?_ (by rintro ⟨i, st, c, d, q⟩ _; rfl) ?_
    · conv => whnf
      refine And.intro (by with_reducible rfl) ?_
      conv => whnf
      refine And.intro (by with_reducible rfl) ?_
      conv => whnf
      refine And.intro (by with_reducible rfl) ?_
      conv => whnf
      refine And.intro (by with_reducible rfl) ?_
      refine And.intro (by with_reducible rfl) ?_
      conv => whnf
      refine And.intro (by with_reducible rfl) ?_
      refine And.intro (by with_reducible rfl) ?_
      conv => whnf
      refine And.intro (by with_reducible rfl) ?_
      conv => whnf
      refine And.intro (by with_reducible rfl) ?_
      conv => whnf
      refine And.intro (by with_reducible rfl) ?_
      conv => whnf
      refine And.intro (by with_reducible rfl) ?_
      conv => whnf
      refine And.intro (by with_reducible rfl) ?_
      conv => whnf
      refine And.intro (by with_reducible rfl) ?_
      conv => whnf
      refine And.intro (by with_reducible rfl) ?_
      conv => whnf
      refine And.intro (by with_reducible rfl) ?_
      conv => whnf
      refine And.intro (by with_reducible rfl) ?_
      conv => whnf
      refine And.intro (by with_reducible rfl) ?_
      conv => whnf
      refine And.intro (by with_reducible rfl) ?_
      conv => whnf
      refine And.intro (by with_reducible rfl) ?_
      conv => whnf
      refine And.intro (by with_reducible rfl) ?_
      conv => whnf
      refine And.intro (by with_reducible rfl) ?_
      conv => whnf
      refine And.intro (by with_reducible rfl) ?_
      conv => whnf
      refine And.intro (by with_reducible rfl) ?_
      conv => whnf
      refine And.intro (by with_reducible rfl) ?_
      conv => whnf
      refine And.intro (by with_reducible rfl) ?_
      conv => whnf
      refine And.intro (by with_reducible rfl) ?_
      conv => whnf
      refine And.intro (by with_reducible rfl) ?_
      conv => whnf
      refine And.intro (by with_reducible rfl) ?_
      conv => whnf
      refine And.intro (by with_reducible rfl) ?_
      conv => whnf
      refine And.intro (by with_reducible rfl) ?_
      conv => whnf
      refine And.intro (by with_reducible rfl) ?_
      conv => whnf
      refine And.intro (by with_reducible rfl) ?_
      conv => whnf
      refine And.intro (by with_reducible rfl) ?_
      conv => whnf
      refine And.intro (by with_reducible rfl) ?_
      conv => whnf
      refine And.intro (by with_reducible rfl) ?_
      conv => whnf
      refine And.intro (by with_reducible rfl) ?_
      conv => whnf
      refine And.intro (by with_reducible rfl) ?_
      conv => whnf
      refine And.intro (by with_reducible rfl) ?_
      conv => whnf
      refine And.intro (by with_reducible rfl) ?_
      conv => whnf
      refine And.intro (by with_reducible rfl) ?_
      conv => whnf
      refine And.intro (by decide) ?_
      conv => whnf
      refine And.intro (by with_reducible rfl) ?_
      conv => whnf
      refine And.intro (by with_reducible rfl) ?_
      conv => whnf
      refine And.intro (by with_reducible rfl) ?_
      conv => whnf
      refine And.intro (by with_reducible rfl) ?_
      conv => whnf
      refine And.intro (by with_reducible rfl) ?_
      conv => whnf
      refine And.intro (by with_reducible rfl) ?_
      conv => whnf
      refine And.intro (by with_reducible rfl) ?_
      conv => whnf
      refine And.intro (by with_reducible rfl) ?_
      conv => whnf
      refine And.intro (by with_reducible rfl) ?_
      conv => whnf
      refine And.intro (by with_reducible rfl) ?_
      conv => whnf
      refine And.intro (by with_reducible rfl) ?_
      conv => whnf
      refine And.intro (by with_reducible rfl) ?_
      conv => whnf
      refine And.intro (by with_reducible rfl) ?_
      conv => whnf
      refine And.intro (by with_reducible rfl) ?_
      exact True.intro
    · dsimp only
      omega
    · rintro ⟨i, st, c, d, q⟩ next1 hI1 ih1
      try dsimp only at hI1
      conv => whnf
      refine And.intro (fun hc2 => ?_) (fun hc2 => ?_)
      · replace hc2 := of_decide_eq_true hc2
        conv => whnf
        refine And.intro (by omega) ?_
        refine And.intro (by decide) ?_
        refine ex_row ?_ fun x hx => ?_
        · (simp only [List.length_map, maxLen_eq, wrap_i64] at *; omega)
        · simp only [toNat_ofNat] at hx
          conv => whnf
          refine hear_el _ _ _ _ _ _ _ _ _ _ _ _ fun st' c' d' q' came p1 p2 p3 p4 => ?_
          conv => whnf
          refine ⟨_, newer_good _ _ _ _, ?_⟩
          conv => whnf
          refine And.intro (fun hc4 => ?_) (fun hc4 => ?_)
          · replace hc4 := of_decide_eq_false hc4
            conv => whnf
            refine br_l rfl rfl ?_
            conv => whnf
            refine br_l rfl rfl ?_
            conv => whnf
            refine br_l rfl rfl ?_
            conv => whnf
            refine br_r rfl rfl ?_
            conv => whnf
            refine And.intro (fun hc5 => ?_) (fun hc5 => ?_)
            · simp only [Bool.not_eq_true', Bool.not_eq_false', Bool.and_eq_true, Bool.and_eq_false_imp, Bool.or_eq_true, Bool.or_eq_false_iff, Bool.and_true, Bool.true_and, Bool.not_true, Bool.not_false, decide_eq_true_eq, decide_eq_false_iff_not, Bool.decide_and] at hc5
              contradiction
            · simp only [Bool.not_eq_true', Bool.not_eq_false', Bool.and_eq_true, Bool.and_eq_false_imp, Bool.or_eq_true, Bool.or_eq_false_iff, Bool.and_true, Bool.true_and, Bool.not_true, Bool.not_false, decide_eq_true_eq, decide_eq_false_iff_not, Bool.decide_and] at hc5
              conv => whnf
              refine And.intro (fun hc6 => ?_) (fun hc6 => ?_)
              · replace hc6 := of_decide_eq_true hc6
                conv => whnf
                refine br_l rfl rfl ?_
                conv => whnf
                refine br_l rfl rfl ?_
                conv => whnf
                refine br_l rfl rfl ?_
                conv => whnf
                refine br_l rfl rfl ?_
                conv => whnf
                refine br_l rfl rfl ?_
                conv => whnf
                refine And.intro (fun hc7 => ?_) (fun hc7 => ?_)
                · simp only [Bool.not_eq_true', Bool.not_eq_false', Bool.and_eq_true, Bool.and_eq_false_imp, Bool.or_eq_true, Bool.or_eq_false_iff, Bool.and_true, Bool.true_and, Bool.not_true, Bool.not_false, decide_eq_true_eq, decide_eq_false_iff_not, Bool.decide_and] at hc7
                  conv => whnf
                  refine br_l rfl rfl ?_
                  conv => whnf
                  refine br_l rfl rfl ?_
                  conv => whnf
                  refine br_l rfl rfl ?_
                  conv => whnf
                  refine br_l rfl rfl ?_
                  conv => whnf
                  refine br_l rfl rfl ?_
                  conv => whnf
                  refine br_l rfl rfl ?_
                  conv => whnf
                  refine br_r rfl rfl ?_
                  conv => whnf
                  refine br_l rfl rfl ?_
                  conv => whnf
                  refine And.intro (fun hc8 => ?_) (fun hc8 => ?_)
                  · simp only [Bool.not_eq_true', Bool.not_eq_false', Bool.and_eq_true, Bool.and_eq_false_imp, Bool.or_eq_true, Bool.or_eq_false_iff, Bool.and_true, Bool.true_and, Bool.not_true, Bool.not_false, decide_eq_true_eq, decide_eq_false_iff_not, Bool.decide_and] at hc8
                    conv => whnf
                    refine br_l rfl rfl ?_
                    conv => whnf
                    refine br_l rfl rfl ?_
                    conv => whnf
                    refine br_l rfl rfl ?_
                    conv => whnf
                    refine br_r rfl rfl ?_
                    conv => whnf
                    refine br_l rfl rfl ?_
                    conv => whnf
                    refine And.intro (fun hc9 => ?_) (fun hc9 => ?_)
                    · replace hc9 := of_decide_eq_true (Bool.not_eq_false' _ |>.mp hc9)
                      conv => whnf
                      refine br_l rfl rfl ?_
                      conv => whnf
                      refine br_l rfl rfl ?_
                      conv => whnf
                      refine br_l rfl rfl ?_
                      conv => whnf
                      refine br_r rfl rfl ?_
                      conv => whnf
                      refine br_l rfl rfl ?_
                      conv => whnf
                      refine And.intro (fun hc10 => ?_) (fun hc10 => ?_)
                      · replace hc10 := of_decide_eq_false (Bool.not_eq_true' _ |>.mp hc10)
                        (exfalso; omega)
                      · replace hc10 := of_decide_eq_true (Bool.not_eq_false' _ |>.mp hc10)
                        conv => whnf
                        refine And.intro (fun hc11 => ?_) (fun hc11 => ?_)
                        · replace hc11 := of_decide_eq_false (Bool.not_eq_true' _ |>.mp hc11)
                          contradiction
                        · replace hc11 := of_decide_eq_true (Bool.not_eq_false' _ |>.mp hc11)
                          conv => whnf
                          refine br_r rfl rfl ?_
                          conv => whnf
                          refine br_r rfl rfl ?_
                          conv => whnf
                          refine br_r rfl rfl ?_
                          conv => whnf
                          refine br_r rfl rfl ?_
                          conv => whnf
                          refine br_r rfl rfl ?_
                          conv => whnf
                          refine br_l rfl rfl ?_
                          conv => whnf
                          refine br_l rfl rfl ?_
                          conv => whnf
                          refine br_l rfl rfl ?_
                          conv => whnf
                          refine br_l rfl rfl ?_
                          conv => whnf
                          refine And.intro (fun hc12 => ?_) (fun hc12 => ?_)
                          · replace hc12 := of_decide_eq_true hc12
                            (exfalso; omega)
                          · replace hc12 := of_decide_eq_false hc12
                            conv => whnf
                            refine br_r rfl rfl ?_
                            conv => whnf
                            refine br_r rfl rfl ?_
                            conv => whnf
                            refine br_r rfl rfl ?_
                            conv => whnf
                            refine br_r rfl rfl ?_
                            conv => whnf
                            refine br_l rfl rfl ?_
                            conv => whnf
                            refine br_r rfl rfl ?_
                            conv => whnf
                            refine br_r rfl rfl ?_
                            conv => whnf
                            refine br_r rfl rfl ?_
                            conv => whnf
                            refine ih1 ((i + 1, st', c', d', q')) _ ?_ ?_ (st_of ?_)
                            · dsimp only
                              (simp only [List.length_map, maxLen_eq, wrap_i64] at *; omega)
                            · dsimp only
                              (simp only [List.length_map, maxLen_eq, wrap_i64] at *; omega)
                            · conv => whnf
                              refine And.intro (by with_reducible rfl) ?_
                              conv => whnf
                              refine And.intro (by with_reducible rfl) ?_
                              conv => whnf
                              refine And.intro (by with_reducible rfl) ?_
                              conv => whnf
                              refine And.intro (by with_reducible rfl) ?_
                              refine And.intro (by with_reducible rfl) ?_
                              conv => whnf
                              refine And.intro (by with_reducible rfl) ?_
                              refine And.intro (by with_reducible rfl) ?_
                              conv => whnf
                              refine And.intro (by with_reducible rfl) ?_
                              conv => whnf
                              refine And.intro (by with_reducible rfl) ?_
                              conv => whnf
                              refine And.intro (by with_reducible rfl) ?_
                              conv => whnf
                              refine And.intro (by with_reducible rfl) ?_
                              conv => whnf
                              refine And.intro (by with_reducible rfl) ?_
                              conv => whnf
                              refine And.intro (by with_reducible rfl) ?_
                              conv => whnf
                              refine And.intro (by with_reducible rfl) ?_
                              conv => whnf
                              refine And.intro (by with_reducible rfl) ?_
                              conv => whnf
                              refine And.intro (by with_reducible rfl) ?_
                              conv => whnf
                              refine And.intro (by with_reducible rfl) ?_
                              conv => whnf
                              refine And.intro (by with_reducible rfl) ?_
                              conv => whnf
                              refine And.intro (by with_reducible rfl) ?_
                              conv => whnf
                              refine And.intro (by with_reducible rfl) ?_
                              conv => whnf
                              refine And.intro (by with_reducible rfl) ?_
                              conv => whnf
                              refine And.intro (by with_reducible rfl) ?_
                              conv => whnf
                              refine And.intro (by with_reducible rfl) ?_
                              conv => whnf
                              refine And.intro (by with_reducible rfl) ?_
                              conv => whnf
                              refine And.intro (by with_reducible rfl) ?_
                              conv => whnf
                              refine And.intro (by with_reducible rfl) ?_
                              conv => whnf
                              refine And.intro (by with_reducible rfl) ?_
                              conv => whnf
                              refine And.intro (by with_reducible rfl) ?_
                              conv => whnf
                              refine And.intro (by with_reducible rfl) ?_
                              conv => whnf
                              refine And.intro (by with_reducible rfl) ?_
                              conv => whnf
                              refine And.intro (by with_reducible rfl) ?_
                              conv => whnf
                              refine And.intro (by with_reducible rfl) ?_
                              conv => whnf
                              refine And.intro (by with_reducible rfl) ?_
                              conv => whnf
                              refine And.intro (by with_reducible rfl) ?_
                              conv => whnf
                              refine And.intro (by with_reducible rfl) ?_
                              conv => whnf
                              refine And.intro (by with_reducible rfl) ?_
                              conv => whnf
                              refine And.intro (by with_reducible rfl) ?_
                              conv => whnf
                              refine And.intro (by with_reducible rfl) ?_
                              conv => whnf
                              refine And.intro (by with_reducible rfl) ?_
                              conv => whnf
                              refine And.intro (by with_reducible rfl) ?_
                              conv => whnf
                              refine And.intro (by (simp only [List.length_map, maxLen_eq, wrap_i64] at *; omega)) ?_
                              conv => whnf
                              refine And.intro (by with_reducible rfl) ?_
                              conv => whnf
                              refine And.intro (by with_reducible rfl) ?_
                              conv => whnf
                              refine And.intro (by with_reducible rfl) ?_
                              conv => whnf
                              refine And.intro (by with_reducible rfl) ?_
                              conv => whnf
                              refine And.intro (by with_reducible rfl) ?_
                              conv => whnf
                              refine And.intro (by with_reducible rfl) ?_
                              conv => whnf
                              refine And.intro (by with_reducible rfl) ?_
                              conv => whnf
                              refine And.intro (by with_reducible rfl) ?_
                              conv => whnf
                              refine And.intro (by with_reducible rfl) ?_
                              conv => whnf
                              refine And.intro (by with_reducible rfl) ?_
                              conv => whnf
                              refine And.intro (by with_reducible rfl) ?_
                              conv => whnf
                              refine And.intro (by with_reducible rfl) ?_
                              conv => whnf
                              refine And.intro (by with_reducible rfl) ?_
                              conv => whnf
                              refine And.intro (by with_reducible rfl) ?_
                              exact True.intro
                    · replace hc9 := of_decide_eq_false (Bool.not_eq_true' _ |>.mp hc9)
                      (exfalso; omega)
                  · simp only [Bool.not_eq_true', Bool.not_eq_false', Bool.and_eq_true, Bool.and_eq_false_imp, Bool.or_eq_true, Bool.or_eq_false_iff, Bool.and_true, Bool.true_and, Bool.not_true, Bool.not_false, decide_eq_true_eq, decide_eq_false_iff_not, Bool.decide_and] at hc8
                    (exfalso; omega)
                · simp only [Bool.not_eq_true', Bool.not_eq_false', Bool.and_eq_true, Bool.and_eq_false_imp, Bool.or_eq_true, Bool.or_eq_false_iff, Bool.and_true, Bool.true_and, Bool.not_true, Bool.not_false, decide_eq_true_eq, decide_eq_false_iff_not, Bool.decide_and] at hc7
                  (exfalso; omega)
              · replace hc6 := of_decide_eq_false hc6
                conv => whnf
                refine br_r rfl rfl ?_
                conv => whnf
                refine br_r rfl rfl ?_
                conv => whnf
                refine br_r rfl rfl ?_
                conv => whnf
                refine br_r rfl rfl ?_
                conv => whnf
                refine br_r rfl rfl ?_
                conv => whnf
                refine br_r rfl rfl ?_
                conv => whnf
                refine br_r rfl rfl ?_
                conv => whnf
                refine br_r rfl rfl ?_
                conv => whnf
                refine br_r rfl rfl ?_
                conv => whnf
                refine br_r rfl rfl ?_
                conv => whnf
                refine br_r rfl rfl ?_
                conv => whnf
                refine br_r rfl rfl ?_
                conv => whnf
                refine And.intro (fun hc13 => ?_) (fun hc13 => ?_)
                · replace hc13 := of_decide_eq_false (Bool.not_eq_true' _ |>.mp hc13)
                  conv => whnf
                  refine br_l rfl rfl ?_
                  conv => whnf
                  refine br_l rfl rfl ?_
                  conv => whnf
                  refine br_l rfl rfl ?_
                  conv => whnf
                  refine br_l rfl rfl ?_
                  conv => whnf
                  refine br_l rfl rfl ?_
                  conv => whnf
                  refine And.intro (fun hc14 => ?_) (fun hc14 => ?_)
                  · replace hc14 := of_decide_eq_true (Bool.not_eq_false' _ |>.mp hc14)
                    conv => whnf
                    refine br_l rfl rfl ?_
                    conv => whnf
                    refine br_l rfl rfl ?_
                    conv => whnf
                    refine br_l rfl rfl ?_
                    conv => whnf
                    refine And.intro (fun hc15 => ?_) (fun hc15 => ?_)
                    · replace hc15 := of_decide_eq_true hc15
                      conv => whnf
                      refine br_l rfl rfl ?_
                      conv => whnf
                      refine br_l rfl rfl ?_
                      conv => whnf
                      refine br_l rfl rfl ?_
                      conv => whnf
                      refine br_l rfl rfl ?_
                      conv => whnf
                      refine br_l rfl rfl ?_
                      conv => whnf
                      refine br_l rfl rfl ?_
                      conv => whnf
                      refine br_r rfl rfl ?_
                      conv => whnf
                      refine And.intro (fun hc16 => ?_) (fun hc16 => ?_)
                      · simp only [Bool.not_eq_true', Bool.not_eq_false', Bool.and_eq_true, Bool.and_eq_false_imp, Bool.or_eq_true, Bool.or_eq_false_iff, Bool.and_true, Bool.true_and, Bool.not_true, Bool.not_false, decide_eq_true_eq, decide_eq_false_iff_not, Bool.decide_and] at hc16
                        (exfalso; omega)
                      · simp only [Bool.not_eq_true', Bool.not_eq_false', Bool.and_eq_true, Bool.and_eq_false_imp, Bool.or_eq_true, Bool.or_eq_false_iff, Bool.and_true, Bool.true_and, Bool.not_true, Bool.not_false, decide_eq_true_eq, decide_eq_false_iff_not, Bool.decide_and] at hc16
                        conv => whnf
                        refine ih1 ((i + 1, st', c', d', q')) _ ?_ ?_ (st_of ?_)
                        · dsimp only
                          (simp only [List.length_map, maxLen_eq, wrap_i64] at *; omega)
                        · dsimp only
                          (simp only [List.length_map, maxLen_eq, wrap_i64] at *; omega)
                        · conv => whnf
                          refine And.intro (by with_reducible rfl) ?_
                          conv => whnf
                          refine And.intro (by with_reducible rfl) ?_
                          conv => whnf
                          refine And.intro (by with_reducible rfl) ?_
                          conv => whnf
                          refine And.intro (by with_reducible rfl) ?_
                          refine And.intro (by with_reducible rfl) ?_
                          conv => whnf
                          refine And.intro (by with_reducible rfl) ?_
                          refine And.intro (by with_reducible rfl) ?_
                          conv => whnf
                          refine And.intro (by with_reducible rfl) ?_
                          conv => whnf
                          refine And.intro (by with_reducible rfl) ?_
                          conv => whnf
                          refine And.intro (by with_reducible rfl) ?_
                          conv => whnf
                          refine And.intro (by with_reducible rfl) ?_
                          conv => whnf
                          refine And.intro (by with_reducible rfl) ?_
                          conv => whnf
                          refine And.intro (by with_reducible rfl) ?_
                          conv => whnf
                          refine And.intro (by with_reducible rfl) ?_
                          conv => whnf
                          refine And.intro (by with_reducible rfl) ?_
                          conv => whnf
                          refine And.intro (by with_reducible rfl) ?_
                          conv => whnf
                          refine And.intro (by with_reducible rfl) ?_
                          conv => whnf
                          refine And.intro (by with_reducible rfl) ?_
                          conv => whnf
                          refine And.intro (by with_reducible rfl) ?_
                          conv => whnf
                          refine And.intro (by with_reducible rfl) ?_
                          conv => whnf
                          refine And.intro (by with_reducible rfl) ?_
                          conv => whnf
                          refine And.intro (by with_reducible rfl) ?_
                          conv => whnf
                          refine And.intro (by with_reducible rfl) ?_
                          conv => whnf
                          refine And.intro (by with_reducible rfl) ?_
                          conv => whnf
                          refine And.intro (by with_reducible rfl) ?_
                          conv => whnf
                          refine And.intro (by with_reducible rfl) ?_
                          conv => whnf
                          refine And.intro (by with_reducible rfl) ?_
                          conv => whnf
                          refine And.intro (by with_reducible rfl) ?_
                          conv => whnf
                          refine And.intro (by with_reducible rfl) ?_
                          conv => whnf
                          refine And.intro (by with_reducible rfl) ?_
                          conv => whnf
                          refine And.intro (by with_reducible rfl) ?_
                          conv => whnf
                          refine And.intro (by with_reducible rfl) ?_
                          conv => whnf
                          refine And.intro (by with_reducible rfl) ?_
                          conv => whnf
                          refine And.intro (by with_reducible rfl) ?_
                          conv => whnf
                          refine And.intro (by with_reducible rfl) ?_
                          conv => whnf
                          refine And.intro (by with_reducible rfl) ?_
                          conv => whnf
                          refine And.intro (by with_reducible rfl) ?_
                          conv => whnf
                          refine And.intro (by with_reducible rfl) ?_
                          conv => whnf
                          refine And.intro (by with_reducible rfl) ?_
                          conv => whnf
                          refine And.intro (by with_reducible rfl) ?_
                          conv => whnf
                          refine And.intro (by (simp only [List.length_map, maxLen_eq, wrap_i64] at *; omega)) ?_
                          conv => whnf
                          refine And.intro (by with_reducible rfl) ?_
                          conv => whnf
                          refine And.intro (by with_reducible rfl) ?_
                          conv => whnf
                          refine And.intro (by with_reducible rfl) ?_
                          conv => whnf
                          refine And.intro (by with_reducible rfl) ?_
                          conv => whnf
                          refine And.intro (by with_reducible rfl) ?_
                          conv => whnf
                          refine And.intro (by with_reducible rfl) ?_
                          conv => whnf
                          refine And.intro (by with_reducible rfl) ?_
                          conv => whnf
                          refine And.intro (by with_reducible rfl) ?_
                          conv => whnf
                          refine And.intro (by with_reducible rfl) ?_
                          conv => whnf
                          refine And.intro (by with_reducible rfl) ?_
                          conv => whnf
                          refine And.intro (by with_reducible rfl) ?_
                          conv => whnf
                          refine And.intro (by with_reducible rfl) ?_
                          conv => whnf
                          refine And.intro (by with_reducible rfl) ?_
                          conv => whnf
                          refine And.intro (by with_reducible rfl) ?_
                          exact True.intro
                    · replace hc15 := of_decide_eq_false hc15
                      conv => whnf
                      refine br_r rfl rfl ?_
                      conv => whnf
                      refine br_r rfl rfl ?_
                      conv => whnf
                      refine br_r rfl rfl ?_
                      conv => whnf
                      refine br_r rfl rfl ?_
                      conv => whnf
                      refine br_l rfl rfl ?_
                      conv => whnf
                      refine br_r rfl rfl ?_
                      conv => whnf
                      refine br_r rfl rfl ?_
                      conv => whnf
                      refine br_r rfl rfl ?_
                      conv => whnf
                      refine ih1 ((i + 1, st', c', d', q')) _ ?_ ?_ (st_of ?_)
                      · dsimp only
                        (simp only [List.length_map, maxLen_eq, wrap_i64] at *; omega)
                      · dsimp only
                        (simp only [List.length_map, maxLen_eq, wrap_i64] at *; omega)
                      · conv => whnf
                        refine And.intro (by with_reducible rfl) ?_
                        conv => whnf
                        refine And.intro (by with_reducible rfl) ?_
                        conv => whnf
                        refine And.intro (by with_reducible rfl) ?_
                        conv => whnf
                        refine And.intro (by with_reducible rfl) ?_
                        refine And.intro (by with_reducible rfl) ?_
                        conv => whnf
                        refine And.intro (by with_reducible rfl) ?_
                        refine And.intro (by with_reducible rfl) ?_
                        conv => whnf
                        refine And.intro (by with_reducible rfl) ?_
                        conv => whnf
                        refine And.intro (by with_reducible rfl) ?_
                        conv => whnf
                        refine And.intro (by with_reducible rfl) ?_
                        conv => whnf
                        refine And.intro (by with_reducible rfl) ?_
                        conv => whnf
                        refine And.intro (by with_reducible rfl) ?_
                        conv => whnf
                        refine And.intro (by with_reducible rfl) ?_
                        conv => whnf
                        refine And.intro (by with_reducible rfl) ?_
                        conv => whnf
                        refine And.intro (by with_reducible rfl) ?_
                        conv => whnf
                        refine And.intro (by with_reducible rfl) ?_
                        conv => whnf
                        refine And.intro (by with_reducible rfl) ?_
                        conv => whnf
                        refine And.intro (by with_reducible rfl) ?_
                        conv => whnf
                        refine And.intro (by with_reducible rfl) ?_
                        conv => whnf
                        refine And.intro (by with_reducible rfl) ?_
                        conv => whnf
                        refine And.intro (by with_reducible rfl) ?_
                        conv => whnf
                        refine And.intro (by with_reducible rfl) ?_
                        conv => whnf
                        refine And.intro (by with_reducible rfl) ?_
                        conv => whnf
                        refine And.intro (by with_reducible rfl) ?_
                        conv => whnf
                        refine And.intro (by with_reducible rfl) ?_
                        conv => whnf
                        refine And.intro (by with_reducible rfl) ?_
                        conv => whnf
                        refine And.intro (by with_reducible rfl) ?_
                        conv => whnf
                        refine And.intro (by with_reducible rfl) ?_
                        conv => whnf
                        refine And.intro (by with_reducible rfl) ?_
                        conv => whnf
                        refine And.intro (by with_reducible rfl) ?_
                        conv => whnf
                        refine And.intro (by with_reducible rfl) ?_
                        conv => whnf
                        refine And.intro (by with_reducible rfl) ?_
                        conv => whnf
                        refine And.intro (by with_reducible rfl) ?_
                        conv => whnf
                        refine And.intro (by with_reducible rfl) ?_
                        conv => whnf
                        refine And.intro (by with_reducible rfl) ?_
                        conv => whnf
                        refine And.intro (by with_reducible rfl) ?_
                        conv => whnf
                        refine And.intro (by with_reducible rfl) ?_
                        conv => whnf
                        refine And.intro (by with_reducible rfl) ?_
                        conv => whnf
                        refine And.intro (by with_reducible rfl) ?_
                        conv => whnf
                        refine And.intro (by with_reducible rfl) ?_
                        conv => whnf
                        refine And.intro (by (simp only [List.length_map, maxLen_eq, wrap_i64] at *; omega)) ?_
                        conv => whnf
                        refine And.intro (by with_reducible rfl) ?_
                        conv => whnf
                        refine And.intro (by with_reducible rfl) ?_
                        conv => whnf
                        refine And.intro (by with_reducible rfl) ?_
                        conv => whnf
                        refine And.intro (by with_reducible rfl) ?_
                        conv => whnf
                        refine And.intro (by with_reducible rfl) ?_
                        conv => whnf
                        refine And.intro (by with_reducible rfl) ?_
                        conv => whnf
                        refine And.intro (by with_reducible rfl) ?_
                        conv => whnf
                        refine And.intro (by with_reducible rfl) ?_
                        conv => whnf
                        refine And.intro (by with_reducible rfl) ?_
                        conv => whnf
                        refine And.intro (by with_reducible rfl) ?_
                        conv => whnf
                        refine And.intro (by with_reducible rfl) ?_
                        conv => whnf
                        refine And.intro (by with_reducible rfl) ?_
                        conv => whnf
                        refine And.intro (by with_reducible rfl) ?_
                        conv => whnf
                        refine And.intro (by with_reducible rfl) ?_
                        exact True.intro
                  · replace hc14 := of_decide_eq_false (Bool.not_eq_true' _ |>.mp hc14)
                    (exfalso; omega)
                · replace hc13 := of_decide_eq_true (Bool.not_eq_false' _ |>.mp hc13)
                  contradiction
          · replace hc4 := of_decide_eq_true hc4
            contradiction
      · replace hc2 := of_decide_eq_false hc2
        conv => whnf
        refine ⟨_, awake20_good, ?_⟩
        conv => whnf
        refine AV.of_eqv ?_
        conv => whnf
        refine And.intro (by with_reducible rfl) ?_
        exact True.intro
end Go.Proofs.Ytmchbkmenokkdaa

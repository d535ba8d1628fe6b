/- Parts: in bytes, and read; whether two are the same. -/
import Derived.Test.YtkcdeefnkbbacaaW08
set_option maxRecDepth 100000
set_option linter.unusedSimpArgs false
set_option linter.unusedVariables false
namespace Go.Proofs.Ytkcdeefnkbbacaa
open Go.RowKit
set_option maxHeartbeats 4000000
def b01 (m : Bool) : Int := if m then 1 else 0
def tb (f a b c d s : Int) (m : Bool) (l : List It) : By := (((nb f 1 ++ pb a b c d) ++ nb s 2) ++ nb (b01 m) 1) ++ (all l).1
theorem tb_len (f a b c d s : Int) (m : Bool) (l : List It) : (tb f a b c d s m l).length = 20 + (all l).1.length := by
  simp only [tb, List.length_append, nb_len, pb_len]
def tbR (f a b c d s : Int) (m : Bool) (l : List It) : By × Int := if okT f s l then (tb f a b c d s m l, 0) else ([], 1)
theorem tbR_yes {f a b c d s : Int} {m : Bool} {l : List It} (h : okT f s l) : tbR f a b c d s m l = (tb f a b c d s m l, 0) := if_pos h
theorem tbR_no {f a b c d s : Int} {m : Bool} {l : List It} (h : ¬ okT f s l) : tbR f a b c d s m l = ([], 1) := if_neg h
theorem rtright_good (f a b c d s : Int) (m : Bool) (l : List It) (hl : l.length ≤ 1000000) (hd : ∀ x ∈ l, u32b x.2.2.1) : Good Try.prog 33 [eT f a b c d s m l] (.bool (decide (okT f s l))) := by
  apply good_at ak33 rfl rfl rfl
  conv => whnf
  refine ⟨_, (rall_good l) ?_ ?_, ?_⟩
  · assumption
  · assumption
  · conv => whnf
    refine And.intro (fun hc0 => ?_) (fun hc0 => ?_)
    · replace hc0 := of_decide_eq_true hc0
      conv => whnf
      refine br_l rfl rfl ?_
      conv => whnf
      refine br_l rfl rfl ?_
      conv => whnf
      refine br_l rfl rfl ?_
      conv => whnf
      refine And.intro (fun hc1 => ?_) (fun hc1 => ?_)
      · replace hc1 := of_decide_eq_true hc1
        conv => whnf
        refine br_l rfl rfl ?_
        conv => whnf
        refine br_l rfl rfl ?_
        conv => whnf
        refine ⟨_, rright3_good _, ?_⟩
        conv => whnf
        refine br_l rfl rfl ?_
        conv => whnf
        refine And.intro (fun hc2 => ?_) (fun hc2 => ?_)
        · replace hc2 := of_decide_eq_true hc2
          conv => whnf
          refine br_l rfl rfl ?_
          conv => whnf
          refine br_l rfl rfl ?_
          conv => whnf
          refine br_l rfl rfl ?_
          conv => whnf
          refine And.intro (fun hc3 => ?_) (fun hc3 => ?_)
          · replace hc3 := of_decide_eq_true hc3
            conv => whnf
            refine br_l rfl rfl ?_
            conv => whnf
            refine br_l rfl rfl ?_
            conv => whnf
            refine br_l rfl rfl ?_
            conv => whnf
            refine AV.of_eqv ?_
            conv => whnf
            refine And.intro (by exact decide_eq_decide.2 (by omega)) ?_
            exact True.intro
          · replace hc3 := of_decide_eq_false hc3
            conv => whnf
            refine br_r rfl rfl ?_
            conv => whnf
            refine br_r rfl rfl ?_
            conv => whnf
            refine br_r rfl rfl ?_
            conv => whnf
            refine AV.of_eqv ?_
            conv => whnf
            refine And.intro (by exact (decide_eq_false (by omega)).symm) ?_
            exact True.intro
        · replace hc2 := of_decide_eq_false hc2
          conv => whnf
          refine br_r rfl rfl ?_
          conv => whnf
          refine br_r rfl rfl ?_
          conv => whnf
          refine br_r rfl rfl ?_
          conv => whnf
          refine br_r rfl rfl ?_
          conv => whnf
          refine br_r rfl rfl ?_
          conv => whnf
          refine br_r rfl rfl ?_
          conv => whnf
          refine br_r rfl rfl ?_
          conv => whnf
          refine AV.of_eqv ?_
          conv => whnf
          refine And.intro (by exact (decide_eq_false (by omega)).symm) ?_
          exact True.intro
      · replace hc1 := of_decide_eq_false hc1
        conv => whnf
        refine br_r rfl rfl ?_
        conv => whnf
        refine br_r rfl rfl ?_
        conv => whnf
        refine br_r rfl rfl ?_
        conv => whnf
        refine br_r rfl rfl ?_
        conv => whnf
        refine br_r rfl rfl ?_
        conv => whnf
        refine br_r rfl rfl ?_
        conv => whnf
        refine br_r rfl rfl ?_
        conv => whnf
        refine br_r rfl rfl ?_
        conv => whnf
        refine br_r rfl rfl ?_
        conv => whnf
        refine br_r rfl rfl ?_
        conv => whnf
        refine br_r rfl rfl ?_
        conv => whnf
        refine AV.of_eqv ?_
        conv => whnf
        refine And.intro (by exact (decide_eq_false (by omega)).symm) ?_
        exact True.intro
    · replace hc0 := of_decide_eq_false hc0
      conv => whnf
      refine br_r rfl rfl ?_
      conv => whnf
      refine br_r rfl rfl ?_
      conv => whnf
      refine br_r rfl rfl ?_
      conv => whnf
      refine br_r rfl rfl ?_
      conv => whnf
      refine br_r rfl rfl ?_
      conv => whnf
      refine br_r rfl rfl ?_
      conv => whnf
      refine br_r rfl rfl ?_
      conv => whnf
      refine br_r rfl rfl ?_
      conv => whnf
      refine br_r rfl rfl ?_
      conv => whnf
      refine br_r rfl rfl ?_
      conv => whnf
      refine br_r rfl rfl ?_
      conv => whnf
      refine br_r rfl rfl ?_
      conv => whnf
      refine br_r rfl rfl ?_
      conv => whnf
      refine br_r rfl rfl ?_
      conv => whnf
      refine br_r rfl rfl ?_
      conv => whnf
      refine AV.of_eqv ?_
      conv => whnf
      refine And.intro (by exact (decide_eq_false (by omega)).symm) ?_
      exact True.intro
theorem tbytes_good (f a b c d s : Int) (m : Bool) (l : List It) (ha : u32b a) (hb : u32b b) (hc : u32b c) (he : u32b d) (hl : l.length ≤ 1000000) (hd : ∀ x ∈ l, u32b x.2.2.1) : Good Try.prog 28 [eT f a b c d s m l] (.tuple [.str (tbR f a b c d s m l).1, .int .i64 (tbR f a b c d s m l).2]) := by
  by_cases hk : okT f s l
  · rw [tbR_yes hk]
    have e1 : IntKind.u64.wrap f = f := by have := hk.2; rw [wrap_u64]; omega
    have e2 : IntKind.u64.wrap s = s := by have := hk.2; rw [wrap_u64]; omega
    have e3 := hk.1.2
    cases m
    · apply good_at ak28 rfl rfl rfl
      conv => whnf
      refine ⟨_, (body_good l) ?_ ?_, ?_⟩
      · assumption
      · assumption
      · conv => whnf
        refine ⟨_, tright_good _ _ _ _ _ _ _ _ ?_ ?_, ?_⟩
        · assumption
        · assumption
        · conv => whnf
          refine And.intro (fun hc0 => ?_) (fun hc0 => ?_)
          · replace hc0 := of_decide_eq_false (Bool.not_eq_true' _ |>.mp hc0)
            contradiction
          · replace hc0 := of_decide_eq_true (Bool.not_eq_false' _ |>.mp hc0)
            conv => whnf
            refine br_r rfl rfl ?_
            conv => whnf
            refine And.intro (by exact rfl) ?_
            conv => whnf
            refine ⟨_, (num_good _ _ 1) ?_ ?_ ?_ ?_, ?_⟩
            · omega
            · omega
            · decide
            · decide
            · conv => whnf
              refine ⟨_, ebytes_good _ _ _ _ ?_ ?_ ?_ ?_, ?_⟩
              · assumption
              · assumption
              · assumption
              · assumption
              · conv => whnf
                refine And.intro (by (simp only [nb_len, pb_len, maxLen_eq, List.length_append]; omega)) ?_
                conv => whnf
                refine ⟨_, (num_good _ _ 2) ?_ ?_ ?_ ?_, ?_⟩
                · omega
                · omega
                · decide
                · decide
                · conv => whnf
                  refine And.intro (by (simp only [nb_len, pb_len, maxLen_eq, List.length_append]; omega)) ?_
                  conv => whnf
                  refine ⟨_, (num_good _ _ 1) ?_ ?_ ?_ ?_, ?_⟩
                  · decide
                  · decide
                  · decide
                  · decide
                  · conv => whnf
                    refine And.intro (by (simp only [nb_len, pb_len, maxLen_eq, List.length_append]; omega)) ?_
                    conv => whnf
                    refine And.intro (by (simp only [nb_len, pb_len, maxLen_eq, List.length_append]; omega)) ?_
                    conv => whnf
                    refine AV.of_eqv ?_
                    conv => whnf
                    refine And.intro (by (rw [e1, e2]; rfl)) ?_
                    conv => whnf
                    refine And.intro (by with_reducible rfl) ?_
                    exact True.intro
    · apply good_at ak28 rfl rfl rfl
      conv => whnf
      refine ⟨_, (body_good l) ?_ ?_, ?_⟩
      · assumption
      · assumption
      · conv => whnf
        refine ⟨_, tright_good _ _ _ _ _ _ _ _ ?_ ?_, ?_⟩
        · assumption
        · assumption
        · conv => whnf
          refine And.intro (fun hc0 => ?_) (fun hc0 => ?_)
          · replace hc0 := of_decide_eq_false (Bool.not_eq_true' _ |>.mp hc0)
            contradiction
          · replace hc0 := of_decide_eq_true (Bool.not_eq_false' _ |>.mp hc0)
            conv => whnf
            refine br_l rfl rfl ?_
            conv => whnf
            refine And.intro (by exact rfl) ?_
            conv => whnf
            refine ⟨_, (num_good _ _ 1) ?_ ?_ ?_ ?_, ?_⟩
            · omega
            · omega
            · decide
            · decide
            · conv => whnf
              refine ⟨_, ebytes_good _ _ _ _ ?_ ?_ ?_ ?_, ?_⟩
              · assumption
              · assumption
              · assumption
              · assumption
              · conv => whnf
                refine And.intro (by (simp only [nb_len, pb_len, maxLen_eq, List.length_append]; omega)) ?_
                conv => whnf
                refine ⟨_, (num_good _ _ 2) ?_ ?_ ?_ ?_, ?_⟩
                · omega
                · omega
                · decide
                · decide
                · conv => whnf
                  refine And.intro (by (simp only [nb_len, pb_len, maxLen_eq, List.length_append]; omega)) ?_
                  conv => whnf
                  refine ⟨_, (num_good _ _ 1) ?_ ?_ ?_ ?_, ?_⟩
                  · decide
                  · decide
                  · decide
                  · decide
                  · conv => whnf
                    refine And.intro (by (simp only [nb_len, pb_len, maxLen_eq, List.length_append]; omega)) ?_
                    conv => whnf
                    refine And.intro (by (simp only [nb_len, pb_len, maxLen_eq, List.length_append]; omega)) ?_
                    conv => whnf
                    refine AV.of_eqv ?_
                    conv => whnf
                    refine And.intro (by (rw [e1, e2]; rfl)) ?_
                    conv => whnf
                    refine And.intro (by with_reducible rfl) ?_
                    exact True.intro
  · rw [tbR_no hk]
    apply good_at ak28 rfl rfl rfl
    conv => whnf
    refine ⟨_, (body_good l) ?_ ?_, ?_⟩
    · assumption
    · assumption
    · conv => whnf
      refine ⟨_, tright_good _ _ _ _ _ _ _ _ ?_ ?_, ?_⟩
      · assumption
      · assumption
      · conv => whnf
        refine And.intro (fun hc0 => ?_) (fun hc0 => ?_)
        · replace hc0 := of_decide_eq_false (Bool.not_eq_true' _ |>.mp hc0)
          conv => whnf
          refine AV.of_eqv ?_
          conv => whnf
          refine And.intro (by with_reducible rfl) ?_
          conv => whnf
          refine And.intro (by with_reducible rfl) ?_
          exact True.intro
        · replace hc0 := of_decide_eq_true (Bool.not_eq_false' _ |>.mp hc0)
          contradiction
theorem rtbytes_good (f a b c d s : Int) (m : Bool) (l : List It) (ha : u32b a) (hb : u32b b) (hc : u32b c) (he : u32b d) (hl : l.length ≤ 1000000) (hd : ∀ x ∈ l, u32b x.2.2.1) : Good Try.prog 29 [eT f a b c d s m l] (.tuple [.str (tbR f a b c d s m l).1, .int .i64 (tbR f a b c d s m l).2]) := by
  by_cases hk : okT f s l
  · rw [tbR_yes hk]
    have e1 : IntKind.u64.wrap f = f := by have := hk.2; rw [wrap_u64]; omega
    have e2 : IntKind.u64.wrap s = s := by have := hk.2; rw [wrap_u64]; omega
    have e3 := hk.1.2
    cases m
    · apply good_at ak29 rfl rfl rfl
      conv => whnf
      refine ⟨_, rtright_good _ _ _ _ _ _ _ _ ?_ ?_, ?_⟩
      · assumption
      · assumption
      · conv => whnf
        refine And.intro (fun hc0 => ?_) (fun hc0 => ?_)
        · replace hc0 := of_decide_eq_false (Bool.not_eq_true' _ |>.mp hc0)
          contradiction
        · replace hc0 := of_decide_eq_true (Bool.not_eq_false' _ |>.mp hc0)
          conv => whnf
          refine br_r rfl rfl ?_
          conv => whnf
          refine ⟨_, (rall_good l) ?_ ?_, ?_⟩
          · assumption
          · assumption
          · conv => whnf
            refine And.intro (by exact rfl) ?_
            conv => whnf
            refine ⟨_, (rnum_good _ _ 1) ?_ ?_ ?_ ?_, ?_⟩
            · omega
            · omega
            · decide
            · decide
            · conv => whnf
              refine ⟨_, rebytes_good _ _ _ _ ?_ ?_ ?_ ?_, ?_⟩
              · assumption
              · assumption
              · assumption
              · assumption
              · conv => whnf
                refine And.intro (by (simp only [nb_len, pb_len, maxLen_eq, List.length_append]; omega)) ?_
                conv => whnf
                refine ⟨_, (rnum_good _ _ 2) ?_ ?_ ?_ ?_, ?_⟩
                · omega
                · omega
                · decide
                · decide
                · conv => whnf
                  refine And.intro (by (simp only [nb_len, pb_len, maxLen_eq, List.length_append]; omega)) ?_
                  conv => whnf
                  refine ⟨_, (rnum_good _ _ 1) ?_ ?_ ?_ ?_, ?_⟩
                  · decide
                  · decide
                  · decide
                  · decide
                  · conv => whnf
                    refine And.intro (by (simp only [nb_len, pb_len, maxLen_eq, List.length_append]; omega)) ?_
                    conv => whnf
                    refine And.intro (by (simp only [nb_len, pb_len, maxLen_eq, List.length_append]; omega)) ?_
                    conv => whnf
                    refine AV.of_eqv ?_
                    conv => whnf
                    refine And.intro (by (rw [e1, e2]; rfl)) ?_
                    conv => whnf
                    refine And.intro (by with_reducible rfl) ?_
                    exact True.intro
    · apply good_at ak29 rfl rfl rfl
      conv => whnf
      refine ⟨_, rtright_good _ _ _ _ _ _ _ _ ?_ ?_, ?_⟩
      · assumption
      · assumption
      · conv => whnf
        refine And.intro (fun hc0 => ?_) (fun hc0 => ?_)
        · replace hc0 := of_decide_eq_false (Bool.not_eq_true' _ |>.mp hc0)
          contradiction
        · replace hc0 := of_decide_eq_true (Bool.not_eq_false' _ |>.mp hc0)
          conv => whnf
          refine br_l rfl rfl ?_
          conv => whnf
          refine ⟨_, (rall_good l) ?_ ?_, ?_⟩
          · assumption
          · assumption
          · conv => whnf
            refine And.intro (by exact rfl) ?_
            conv => whnf
            refine ⟨_, (rnum_good _ _ 1) ?_ ?_ ?_ ?_, ?_⟩
            · omega
            · omega
            · decide
            · decide
            · conv => whnf
              refine ⟨_, rebytes_good _ _ _ _ ?_ ?_ ?_ ?_, ?_⟩
              · assumption
              · assumption
              · assumption
              · assumption
              · conv => whnf
                refine And.intro (by (simp only [nb_len, pb_len, maxLen_eq, List.length_append]; omega)) ?_
                conv => whnf
                refine ⟨_, (rnum_good _ _ 2) ?_ ?_ ?_ ?_, ?_⟩
                · omega
                · omega
                · decide
                · decide
                · conv => whnf
                  refine And.intro (by (simp only [nb_len, pb_len, maxLen_eq, List.length_append]; omega)) ?_
                  conv => whnf
                  refine ⟨_, (rnum_good _ _ 1) ?_ ?_ ?_ ?_, ?_⟩
                  · decide
                  · decide
                  · decide
                  · decide
                  · conv => whnf
                    refine And.intro (by (simp only [nb_len, pb_len, maxLen_eq, List.length_append]; omega)) ?_
                    conv => whnf
                    refine And.intro (by (simp only [nb_len, pb_len, maxLen_eq, List.length_append]; omega)) ?_
                    conv => whnf
                    refine AV.of_eqv ?_
                    conv => whnf
                    refine And.intro (by (rw [e1, e2]; rfl)) ?_
                    conv => whnf
                    refine And.intro (by with_reducible rfl) ?_
                    exact True.intro
  · rw [tbR_no hk]
    apply good_at ak29 rfl rfl rfl
    conv => whnf
    refine ⟨_, rtright_good _ _ _ _ _ _ _ _ ?_ ?_, ?_⟩
    · assumption
    · assumption
    · conv => whnf
      refine And.intro (fun hc0 => ?_) (fun hc0 => ?_)
      · replace hc0 := of_decide_eq_false (Bool.not_eq_true' _ |>.mp hc0)
        conv => whnf
        refine AV.of_eqv ?_
        conv => whnf
        refine And.intro (by with_reducible rfl) ?_
        conv => whnf
        refine And.intro (by with_reducible rfl) ?_
        exact True.intro
      · replace hc0 := of_decide_eq_true (Bool.not_eq_false' _ |>.mp hc0)
        contradiction
abbrev Tq := Int × Int × Int × Int × Int × Int × Bool × List It
def noT : Tq := (0, 0, 0, 0, 0, 0, false, [])
abbrev eQ (t : Tq) : AV := eT t.1 t.2.1 t.2.2.1 t.2.2.2.1 t.2.2.2.2.1 t.2.2.2.2.2.1 t.2.2.2.2.2.2.1 t.2.2.2.2.2.2.2
def tF (s : By) : Int := ((valB 0 (s.take 1) : Nat) : Int)
def tM (s : By) : Int := ((valB 0 ((s.drop 19).take 1) : Nat) : Int)
def tS (s : By) : Int := ((valB 0 ((s.drop 17).take 2) : Nat) : Int)
def tq (s : By) : Tq := (tF s, q4 (s.drop 1) 0, q4 (s.drop 1) 1, q4 (s.drop 1) 2, q4 (s.drop 1) 3, tS s, decide (tM s = 1), (un (s.drop 20)).1)
def trd (s : By) : Tq × Int := if s.length < 20 then (noT, 2) else if 60 < s.length then (noT, 4) else if ¬ (un (s.drop 20)).2 = 0 then (noT, (un (s.drop 20)).2) else if 1 < tM s ∨ 16 ≤ tF s then (noT, 3) else (tq s, 0)
theorem trd_short {s : By} (h : s.length < 20) : trd s = (noT, 2) := if_pos h
theorem trd_long {s : By} (h : ¬ s.length < 20) (h2 : 60 < s.length) : trd s = (noT, 4) := by unfold trd; rw [if_neg h, if_pos h2]
theorem trd_un {s : By} (h : ¬ s.length < 20) (h2 : ¬ 60 < s.length) (h3 : ¬ (un (s.drop 20)).2 = 0) : trd s = (noT, (un (s.drop 20)).2) := by unfold trd; rw [if_neg h, if_neg h2, if_pos h3]
theorem trd_bad {s : By} (h : ¬ s.length < 20) (h2 : ¬ 60 < s.length) (h3 : (un (s.drop 20)).2 = 0) (h4 : 1 < tM s ∨ 16 ≤ tF s) : trd s = (noT, 3) := by unfold trd; rw [if_neg h, if_neg h2, if_neg (fun hh => hh h3), if_pos h4]
theorem trd_ok {s : By} (h : ¬ s.length < 20) (h2 : ¬ 60 < s.length) (h3 : (un (s.drop 20)).2 = 0) (h4 : ¬ (1 < tM s ∨ 16 ≤ tF s)) : trd s = (tq s, 0) := by unfold trd; rw [if_neg h, if_neg h2, if_neg (fun hh => hh h3), if_neg h4]
theorem val_one {s : By} {c : UInt8} {k : Nat} (h : s[k]? = some c) : ((valB 0 ((s.drop k).take 1) : Nat) : Int) = (c.toNat : Int) := by
  rw [drop_at h]; simp [valB]
theorem q4_take {l : By} {n k : Nat} (h : 4 * k + 4 ≤ n) : q4 (l.take n) k = q4 l k := by
  unfold q4 quad
  rw [List.drop_take, List.take_take, Nat.min_eq_left (by omega)]
theorem equal8_good (l m : List It) (hl : l.length ≤ 1000000) (hm : m.length ≤ 1000000) : Good Try.prog 103 [.sl .sh 4 (l.map it), .sl .sh 4 (m.map it)] (.bool (decide (l = m))) := by
  apply good_at ak103 rfl rfl rfl
  conv => whnf
  refine And.intro (fun hc0 => ?_) (fun hc0 => ?_)
  · replace hc0 := of_decide_eq_false (Bool.not_eq_true' _ |>.mp hc0)
    conv => whnf
    refine AV.of_eqv ?_
    conv => whnf
    refine And.intro (by (exact (decide_eq_false (by rintro rfl; omega)).symm)) ?_
    exact True.intro
  · replace hc0 := of_decide_eq_true (Bool.not_eq_false' _ |>.mp hc0)
    conv => whnf
    refine loop_at (α := Nat) [] (fun i => [(13, .int .i64 (i : Int))]) (fun i => []) (fun i => i ≤ l.length ∧ l.take i = m.take i) (fun i => l.length - i) (0) (st_of ?_) ?_ (by rintro i _; rfl) ?_
    · conv => whnf
      refine And.intro (by with_reducible rfl) ?_
      conv => whnf
      refine And.intro (by with_reducible rfl) ?_
      conv => whnf
      refine And.intro (by with_reducible rfl) ?_
      conv => whnf
      refine And.intro (by with_reducible rfl) ?_
      conv => whnf
      refine And.intro (by with_reducible rfl) ?_
      conv => whnf
      refine And.intro (by with_reducible rfl) ?_
      conv => whnf
      refine And.intro (by with_reducible rfl) ?_
      conv => whnf
      refine And.intro (by with_reducible rfl) ?_
      conv => whnf
      refine And.intro (by with_reducible rfl) ?_
      conv => whnf
      refine And.intro (by decide) ?_
      exact True.intro
    · (exact ⟨by omega, rfl⟩)
    · rintro i nextl0 hIl0 ihl0
      try dsimp only at hIl0
      conv => whnf
      refine And.intro (fun hc1 => ?_) (fun hc1 => ?_)
      · replace hc1 := of_decide_eq_true hc1
        conv => whnf
        refine And.intro (by exact rfl) ?_
        conv => whnf
        refine And.intro (by omega) ?_
        refine ex_row (l := l) ?_ fun x hx => ?_
        · (simp only [map_rows, maxLen_eq] at *; omega)
        · simp only [toNat_ofNat] at hx
          conv => whnf
          refine And.intro (by omega) ?_
          refine ex_row (l := m) ?_ fun y hy => ?_
          · (simp only [map_rows, maxLen_eq] at *; omega)
          · simp only [toNat_ofNat] at hy
            conv => whnf
            refine And.intro (fun hc4 => ?_) (fun hc4 => ?_)
            · simp only [Bool.not_eq_true', Bool.not_eq_false', Bool.and_eq_true, Bool.and_eq_false_imp, Bool.or_eq_true, Bool.or_eq_false_iff, Bool.and_true, Bool.true_and, Bool.not_true, Bool.not_false, decide_eq_true_eq, decide_eq_false_iff_not, Bool.decide_and] at hc4
              conv => whnf
              refine AV.of_eqv ?_
              conv => whnf
              refine And.intro (by (exact (decide_eq_false (ne_at hx hy (by rintro rfl; simp_all))).symm)) ?_
              exact True.intro
            · simp only [Bool.not_eq_true', Bool.not_eq_false', Bool.and_eq_true, Bool.and_eq_false_imp, Bool.or_eq_true, Bool.or_eq_false_iff, Bool.and_true, Bool.true_and, Bool.not_true, Bool.not_false, decide_eq_true_eq, decide_eq_false_iff_not, Bool.decide_and] at hc4
              conv => whnf
              refine ihl0 (i + 1) _ ?_ ?_ (st_of ?_)
              · (have := lt_at hx; exact ⟨by omega, eq_next hIl0.2 hx hy (by simp_all [Prod.ext_iff])⟩)
              · (simp only [map_rows, maxLen_eq] at *; omega)
              · conv => whnf
                refine And.intro (by with_reducible rfl) ?_
                conv => whnf
                refine And.intro (by with_reducible rfl) ?_
                conv => whnf
                refine And.intro (by with_reducible rfl) ?_
                conv => whnf
                refine And.intro (by with_reducible rfl) ?_
                conv => whnf
                refine And.intro (by with_reducible rfl) ?_
                conv => whnf
                refine And.intro (by with_reducible rfl) ?_
                conv => whnf
                refine And.intro (by with_reducible rfl) ?_
                conv => whnf
                refine And.intro (by with_reducible rfl) ?_
                conv => whnf
                refine And.intro (by with_reducible rfl) ?_
                conv => whnf
                refine And.intro (by (simp only [wrap_i64, wrap_u64, wrap_u32, wrap_u16, wrap_u8, maxLen_eq, mmI] at *; omega)) ?_
                exact True.intro
      · replace hc1 := of_decide_eq_false hc1
        conv => whnf
        refine AV.of_eqv ?_
        conv => whnf
        refine And.intro (by (exact (decide_eq_true (eq_end hIl0.2 (by simp only [map_rows] at *; omega) (by simp only [map_rows] at *; omega))).symm)) ?_
        exact True.intro
abbrev sm8 (f a b c d s : Int) (m : Bool) (l : List It) (f' a' b' c' d' s' : Int) (m' : Bool) (l' : List It) : Prop := f = f' ∧ a = a' ∧ b = b' ∧ c = c' ∧ d = d' ∧ s = s' ∧ m = m' ∧ l = l'
theorem tsame_good (f a b c d s : Int) (m : Bool) (l : List It) (f' a' b' c' d' s' : Int) (m' : Bool) (l' : List It) (hl : l.length ≤ 1000000) (hl' : l'.length ≤ 1000000) : Good Try.prog 35 [eT f a b c d s m l, eT f' a' b' c' d' s' m' l'] (.bool (decide (sm8 f a b c d s m l f' a' b' c' d' s' m' l'))) := by
  apply good_at ak35 rfl rfl rfl
  conv => whnf
  refine And.intro (fun hc0 => ?_) (fun hc0 => ?_)
  · replace hc0 := of_decide_eq_true hc0
    conv => whnf
    refine br_l rfl rfl ?_
    conv => whnf
    refine br_l rfl rfl ?_
    conv => whnf
    refine br_l rfl rfl ?_
    conv => whnf
    refine br_l rfl rfl ?_
    conv => whnf
    refine br_l rfl rfl ?_
    conv => whnf
    refine And.intro (fun hc1 => ?_) (fun hc1 => ?_)
    · simp only [Bool.not_eq_true', Bool.not_eq_false', Bool.and_eq_true, Bool.and_eq_false_imp, Bool.or_eq_true, Bool.or_eq_false_iff, Bool.and_true, Bool.true_and, Bool.not_true, Bool.not_false, decide_eq_true_eq, decide_eq_false_iff_not, Bool.decide_and] at hc1
      conv => whnf
      refine br_l rfl rfl ?_
      conv => whnf
      refine br_l rfl rfl ?_
      conv => whnf
      refine br_l rfl rfl ?_
      conv => whnf
      refine br_l rfl rfl ?_
      conv => whnf
      refine br_l rfl rfl ?_
      conv => whnf
      refine And.intro (fun hc2 => ?_) (fun hc2 => ?_)
      · replace hc2 := of_decide_eq_true hc2
        conv => whnf
        refine br_l rfl rfl ?_
        conv => whnf
        refine br_l rfl rfl ?_
        conv => whnf
        refine br_l rfl rfl ?_
        conv => whnf
        refine br_l rfl rfl ?_
        conv => whnf
        refine br_l rfl rfl ?_
        conv => whnf
        refine And.intro (fun hc3 => ?_) (fun hc3 => ?_)
        · replace hc3 := of_decide_eq_true hc3
          conv => whnf
          refine br_l rfl rfl ?_
          conv => whnf
          refine br_l rfl rfl ?_
          conv => whnf
          refine br_l rfl rfl ?_
          conv => whnf
          refine br_l rfl rfl ?_
          conv => whnf
          refine ⟨_, (equal8_good l l') ?_ ?_, ?_⟩
          · assumption
          · assumption
          · conv => whnf
            refine br_l rfl rfl ?_
            conv => whnf
            refine AV.of_eqv ?_
            conv => whnf
            refine And.intro (by (exact decide_eq_decide.2 (by simp_all [sm8]))) ?_
            exact True.intro
        · replace hc3 := of_decide_eq_false hc3
          conv => whnf
          refine br_r rfl rfl ?_
          conv => whnf
          refine br_r rfl rfl ?_
          conv => whnf
          refine br_r rfl rfl ?_
          conv => whnf
          refine br_r rfl rfl ?_
          conv => whnf
          refine br_r rfl rfl ?_
          conv => whnf
          refine AV.of_eqv ?_
          conv => whnf
          refine And.intro (by (exact (decide_eq_false (by simp_all [sm8]; done)).symm)) ?_
          exact True.intro
      · replace hc2 := of_decide_eq_false hc2
        conv => whnf
        refine br_r rfl rfl ?_
        conv => whnf
        refine br_r rfl rfl ?_
        conv => whnf
        refine br_r rfl rfl ?_
        conv => whnf
        refine br_r rfl rfl ?_
        conv => whnf
        refine br_r rfl rfl ?_
        conv => whnf
        refine br_r rfl rfl ?_
        conv => whnf
        refine br_r rfl rfl ?_
        conv => whnf
        refine br_r rfl rfl ?_
        conv => whnf
        refine br_r rfl rfl ?_
        conv => whnf
        refine br_r rfl rfl ?_
        conv => whnf
        refine br_r rfl rfl ?_
        conv => whnf
        refine AV.of_eqv ?_
        conv => whnf
        refine And.intro (by exact (decide_eq_false (by omega)).symm) ?_
        exact True.intro
    · simp only [Bool.not_eq_true', Bool.not_eq_false', Bool.and_eq_true, Bool.and_eq_false_imp, Bool.or_eq_true, Bool.or_eq_false_iff, Bool.and_true, Bool.true_and, Bool.not_true, Bool.not_false, decide_eq_true_eq, decide_eq_false_iff_not, Bool.decide_and] at hc1
      conv => whnf
      refine br_r rfl rfl ?_
      conv => whnf
      refine br_r rfl rfl ?_
      conv => whnf
      refine br_r rfl rfl ?_
      conv => whnf
      refine br_r rfl rfl ?_
      conv => whnf
      refine br_r rfl rfl ?_
      conv => whnf
      refine br_r rfl rfl ?_
      conv => whnf
      refine br_r rfl rfl ?_
      conv => whnf
      refine br_r rfl rfl ?_
      conv => whnf
      refine br_r rfl rfl ?_
      conv => whnf
      refine br_r rfl rfl ?_
      conv => whnf
      refine br_r rfl rfl ?_
      conv => whnf
      refine br_r rfl rfl ?_
      conv => whnf
      refine br_r rfl rfl ?_
      conv => whnf
      refine br_r rfl rfl ?_
      conv => whnf
      refine br_r rfl rfl ?_
      conv => whnf
      refine br_r rfl rfl ?_
      conv => whnf
      refine br_r rfl rfl ?_
      conv => whnf
      refine AV.of_eqv ?_
      conv => whnf
      refine And.intro (by exact (decide_eq_false (by omega)).symm) ?_
      exact True.intro
  · replace hc0 := of_decide_eq_false hc0
    conv => whnf
    refine br_r rfl rfl ?_
    conv => whnf
    refine br_r rfl rfl ?_
    conv => whnf
    refine br_r rfl rfl ?_
    conv => whnf
    refine br_r rfl rfl ?_
    conv => whnf
    refine br_r rfl rfl ?_
    conv => whnf
    refine br_r rfl rfl ?_
    conv => whnf
    refine br_r rfl rfl ?_
    conv => whnf
    refine br_r rfl rfl ?_
    conv => whnf
    refine br_r rfl rfl ?_
    conv => whnf
    refine br_r rfl rfl ?_
    conv => whnf
    refine br_r rfl rfl ?_
    conv => whnf
    refine br_r rfl rfl ?_
    conv => whnf
    refine br_r rfl rfl ?_
    conv => whnf
    refine br_r rfl rfl ?_
    conv => whnf
    refine br_r rfl rfl ?_
    conv => whnf
    refine br_r rfl rfl ?_
    conv => whnf
    refine br_r rfl rfl ?_
    conv => whnf
    refine br_r rfl rfl ?_
    conv => whnf
    refine br_r rfl rfl ?_
    conv => whnf
    refine br_r rfl rfl ?_
    conv => whnf
    refine br_r rfl rfl ?_
    conv => whnf
    refine br_r rfl rfl ?_
    conv => whnf
    refine br_r rfl rfl ?_
    conv => whnf
    refine AV.of_eqv ?_
    conv => whnf
    refine And.intro (by exact (decide_eq_false (by omega)).symm) ?_
    exact True.intro
theorem rtsame_good (f a b c d s : Int) (m : Bool) (l : List It) (f' a' b' c' d' s' : Int) (m' : Bool) (l' : List It) (hl : l.length ≤ 1000000) (hl' : l'.length ≤ 1000000) : Good Try.prog 34 [eT f a b c d s m l, eT f' a' b' c' d' s' m' l'] (.bool (decide (sm8 f a b c d s m l f' a' b' c' d' s' m' l'))) := by
  apply good_at ak34 rfl rfl rfl
  conv => whnf
  refine And.intro (fun hc0 => ?_) (fun hc0 => ?_)
  · replace hc0 := of_decide_eq_true (Bool.not_eq_false' _ |>.mp hc0)
    conv => whnf
    refine br_l rfl rfl ?_
    conv => whnf
    refine br_l rfl rfl ?_
    conv => whnf
    refine br_l rfl rfl ?_
    conv => whnf
    refine br_l rfl rfl ?_
    conv => whnf
    refine br_r rfl rfl ?_
    conv => whnf
    refine And.intro (fun hc1 => ?_) (fun hc1 => ?_)
    · simp only [Bool.not_eq_true', Bool.not_eq_false', Bool.and_eq_true, Bool.and_eq_false_imp, Bool.or_eq_true, Bool.or_eq_false_iff, Bool.and_true, Bool.true_and, Bool.not_true, Bool.not_false, decide_eq_true_eq, decide_eq_false_iff_not, Bool.decide_and] at hc1
      conv => whnf
      refine br_l rfl rfl ?_
      conv => whnf
      refine br_l rfl rfl ?_
      conv => whnf
      refine br_l rfl rfl ?_
      conv => whnf
      refine br_l rfl rfl ?_
      conv => whnf
      refine br_r rfl rfl ?_
      conv => whnf
      refine And.intro (fun hc2 => ?_) (fun hc2 => ?_)
      · replace hc2 := of_decide_eq_true (Bool.not_eq_false' _ |>.mp hc2)
        conv => whnf
        refine br_l rfl rfl ?_
        conv => whnf
        refine br_l rfl rfl ?_
        conv => whnf
        refine br_l rfl rfl ?_
        conv => whnf
        refine br_l rfl rfl ?_
        conv => whnf
        refine br_r rfl rfl ?_
        conv => whnf
        refine And.intro (fun hc3 => ?_) (fun hc3 => ?_)
        · replace hc3 := of_decide_eq_true (Bool.not_eq_false' _ |>.mp hc3)
          conv => whnf
          refine br_l rfl rfl ?_
          conv => whnf
          refine br_l rfl rfl ?_
          conv => whnf
          refine br_l rfl rfl ?_
          conv => whnf
          refine br_l rfl rfl ?_
          conv => whnf
          refine br_l rfl rfl ?_
          conv => whnf
          refine br_l rfl rfl ?_
          conv => whnf
          refine br_r rfl rfl ?_
          conv => whnf
          refine And.intro (fun hc4 => ?_) (fun hc4 => ?_)
          · replace hc4 := of_decide_eq_false (Bool.not_eq_true' _ |>.mp hc4)
            conv => whnf
            refine AV.of_eqv ?_
            conv => whnf
            refine And.intro (by (exact (decide_eq_false (by rintro ⟨h1, h2, h3, h4, h5, h6, h7, h8⟩; simp_all [sm8])).symm)) ?_
            exact True.intro
          · replace hc4 := of_decide_eq_true (Bool.not_eq_false' _ |>.mp hc4)
            conv => whnf
            refine loop_at (α := Nat) [] (fun i => [(44, .int .i64 (i : Int))]) (fun i => []) (fun i => i ≤ l.length ∧ l.take i = l'.take i) (fun i => l.length - i) (0) (st_of ?_) ?_ (by rintro i _; rfl) ?_
            · conv => whnf
              refine And.intro (by with_reducible rfl) ?_
              conv => whnf
              refine And.intro (by with_reducible rfl) ?_
              conv => whnf
              refine And.intro (by with_reducible rfl) ?_
              conv => whnf
              refine And.intro (by with_reducible rfl) ?_
              conv => whnf
              refine And.intro (by with_reducible rfl) ?_
              conv => whnf
              refine And.intro (by with_reducible rfl) ?_
              conv => whnf
              refine And.intro (by with_reducible rfl) ?_
              conv => whnf
              refine And.intro (by with_reducible rfl) ?_
              conv => whnf
              refine And.intro (by with_reducible rfl) ?_
              conv => whnf
              refine And.intro (by with_reducible rfl) ?_
              conv => whnf
              refine And.intro (by with_reducible rfl) ?_
              conv => whnf
              refine And.intro (by with_reducible rfl) ?_
              conv => whnf
              refine And.intro (by with_reducible rfl) ?_
              conv => whnf
              refine And.intro (by with_reducible rfl) ?_
              conv => whnf
              refine And.intro (by with_reducible rfl) ?_
              conv => whnf
              refine And.intro (by with_reducible rfl) ?_
              conv => whnf
              refine And.intro (by with_reducible rfl) ?_
              refine And.intro (by with_reducible rfl) ?_
              conv => whnf
              refine And.intro (by with_reducible rfl) ?_
              refine And.intro (by with_reducible rfl) ?_
              conv => whnf
              refine And.intro (by with_reducible rfl) ?_
              refine And.intro (by with_reducible rfl) ?_
              conv => whnf
              refine And.intro (by with_reducible rfl) ?_
              conv => whnf
              refine And.intro (by with_reducible rfl) ?_
              refine And.intro (by with_reducible rfl) ?_
              conv => whnf
              refine And.intro (by with_reducible rfl) ?_
              conv => whnf
              refine And.intro (by with_reducible rfl) ?_
              conv => whnf
              refine And.intro (by with_reducible rfl) ?_
              conv => whnf
              refine And.intro (by with_reducible rfl) ?_
              refine And.intro (by with_reducible rfl) ?_
              conv => whnf
              refine And.intro (by with_reducible rfl) ?_
              conv => whnf
              refine And.intro (by with_reducible rfl) ?_
              conv => whnf
              refine And.intro (by with_reducible rfl) ?_
              conv => whnf
              refine And.intro (by with_reducible rfl) ?_
              conv => whnf
              refine And.intro (by with_reducible rfl) ?_
              refine And.intro (by with_reducible rfl) ?_
              conv => whnf
              refine And.intro (by with_reducible rfl) ?_
              conv => whnf
              refine And.intro (by with_reducible rfl) ?_
              conv => whnf
              refine And.intro (by with_reducible rfl) ?_
              conv => whnf
              refine And.intro (by with_reducible rfl) ?_
              conv => whnf
              refine And.intro (by with_reducible rfl) ?_
              conv => whnf
              refine And.intro (by with_reducible rfl) ?_
              conv => whnf
              refine And.intro (by with_reducible rfl) ?_
              conv => whnf
              refine And.intro (by with_reducible rfl) ?_
              refine And.intro (by with_reducible rfl) ?_
              conv => whnf
              refine And.intro (by with_reducible rfl) ?_
              conv => whnf
              refine And.intro (by with_reducible rfl) ?_
              refine And.intro (by with_reducible rfl) ?_
              conv => whnf
              refine And.intro (by with_reducible rfl) ?_
              conv => whnf
              refine And.intro (by with_reducible rfl) ?_
              conv => whnf
              refine And.intro (by with_reducible rfl) ?_
              conv => whnf
              refine And.intro (by with_reducible rfl) ?_
              conv => whnf
              refine And.intro (by with_reducible rfl) ?_
              refine And.intro (by with_reducible rfl) ?_
              conv => whnf
              refine And.intro (by with_reducible rfl) ?_
              conv => whnf
              refine And.intro (by with_reducible rfl) ?_
              refine And.intro (by with_reducible rfl) ?_
              conv => whnf
              refine And.intro (by with_reducible rfl) ?_
              conv => whnf
              refine And.intro (by with_reducible rfl) ?_
              conv => whnf
              refine And.intro (by with_reducible rfl) ?_
              conv => whnf
              refine And.intro (by with_reducible rfl) ?_
              conv => whnf
              refine And.intro (by with_reducible rfl) ?_
              refine And.intro (by with_reducible rfl) ?_
              conv => whnf
              refine And.intro (by with_reducible rfl) ?_
              conv => whnf
              refine And.intro (by with_reducible rfl) ?_
              conv => whnf
              refine And.intro (by with_reducible rfl) ?_
              refine And.intro (by with_reducible rfl) ?_
              conv => whnf
              refine And.intro (by with_reducible rfl) ?_
              conv => whnf
              refine And.intro (by with_reducible rfl) ?_
              conv => whnf
              refine And.intro (by with_reducible rfl) ?_
              conv => whnf
              refine And.intro (by with_reducible rfl) ?_
              conv => whnf
              refine And.intro (by with_reducible rfl) ?_
              refine And.intro (by with_reducible rfl) ?_
              conv => whnf
              refine And.intro (by with_reducible rfl) ?_
              conv => whnf
              refine And.intro (by with_reducible rfl) ?_
              conv => whnf
              refine And.intro (by decide) ?_
              conv => whnf
              refine And.intro (by with_reducible rfl) ?_
              conv => whnf
              refine And.intro (by with_reducible rfl) ?_
              conv => whnf
              refine And.intro (by with_reducible rfl) ?_
              conv => whnf
              refine And.intro (by with_reducible rfl) ?_
              conv => whnf
              refine And.intro (by with_reducible rfl) ?_
              conv => whnf
              refine And.intro (by with_reducible rfl) ?_
              conv => whnf
              refine And.intro (by with_reducible rfl) ?_
              conv => whnf
              refine And.intro (by with_reducible rfl) ?_
              conv => whnf
              refine And.intro (by with_reducible rfl) ?_
              conv => whnf
              refine And.intro (by with_reducible rfl) ?_
              conv => whnf
              refine And.intro (by with_reducible rfl) ?_
              conv => whnf
              refine And.intro (by with_reducible rfl) ?_
              conv => whnf
              refine And.intro (by with_reducible rfl) ?_
              conv => whnf
              refine And.intro (by with_reducible rfl) ?_
              conv => whnf
              refine And.intro (by with_reducible rfl) ?_
              conv => whnf
              refine And.intro (by with_reducible rfl) ?_
              exact True.intro
            · (exact ⟨by omega, rfl⟩)
            · rintro i nextl0 hIl0 ihl0
              try dsimp only at hIl0
              conv => whnf
              refine And.intro (fun hc5 => ?_) (fun hc5 => ?_)
              · replace hc5 := of_decide_eq_true hc5
                conv => whnf
                refine And.intro (by exact rfl) ?_
                conv => whnf
                refine And.intro (by omega) ?_
                refine ex_row (l := l) ?_ fun x hx => ?_
                · (simp only [map_rows, maxLen_eq] at *; omega)
                · simp only [toNat_ofNat] at hx
                  conv => whnf
                  refine And.intro (by omega) ?_
                  refine ex_row (l := l') ?_ fun y hy => ?_
                  · (simp only [map_rows, maxLen_eq] at *; omega)
                  · simp only [toNat_ofNat] at hy
                    conv => whnf
                    refine And.intro (fun hc8 => ?_) (fun hc8 => ?_)
                    · simp only [Bool.not_eq_true', Bool.not_eq_false', Bool.and_eq_true, Bool.and_eq_false_imp, Bool.or_eq_true, Bool.or_eq_false_iff, Bool.and_true, Bool.true_and, Bool.not_true, Bool.not_false, decide_eq_true_eq, decide_eq_false_iff_not, Bool.decide_and] at hc8
                      conv => whnf
                      refine AV.of_eqv ?_
                      conv => whnf
                      refine And.intro (by (exact (decide_eq_false (by rintro ⟨h1, h2, h3, h4, h5, h6, h7, h8⟩; simp_all [sm8])).symm)) ?_
                      exact True.intro
                    · simp only [Bool.not_eq_true', Bool.not_eq_false', Bool.and_eq_true, Bool.and_eq_false_imp, Bool.or_eq_true, Bool.or_eq_false_iff, Bool.and_true, Bool.true_and, Bool.not_true, Bool.not_false, decide_eq_true_eq, decide_eq_false_iff_not, Bool.decide_and] at hc8
                      conv => whnf
                      refine ihl0 (i + 1) _ ?_ ?_ (st_of ?_)
                      · (have := lt_at hx; exact ⟨by omega, eq_next hIl0.2 hx hy (by simp_all [Prod.ext_iff])⟩)
                      · (simp only [map_rows, maxLen_eq] at *; omega)
                      · conv => whnf
                        refine And.intro (by with_reducible rfl) ?_
                        conv => whnf
                        refine And.intro (by with_reducible rfl) ?_
                        conv => whnf
                        refine And.intro (by with_reducible rfl) ?_
                        conv => whnf
                        refine And.intro (by with_reducible rfl) ?_
                        conv => whnf
                        refine And.intro (by with_reducible rfl) ?_
                        conv => whnf
                        refine And.intro (by with_reducible rfl) ?_
                        conv => whnf
                        refine And.intro (by with_reducible rfl) ?_
                        conv => whnf
                        refine And.intro (by with_reducible rfl) ?_
                        conv => whnf
                        refine And.intro (by with_reducible rfl) ?_
                        conv => whnf
                        refine And.intro (by with_reducible rfl) ?_
                        conv => whnf
                        refine And.intro (by with_reducible rfl) ?_
                        conv => whnf
                        refine And.intro (by with_reducible rfl) ?_
                        conv => whnf
                        refine And.intro (by with_reducible rfl) ?_
                        conv => whnf
                        refine And.intro (by with_reducible rfl) ?_
                        conv => whnf
                        refine And.intro (by with_reducible rfl) ?_
                        conv => whnf
                        refine And.intro (by with_reducible rfl) ?_
                        conv => whnf
                        refine And.intro (by with_reducible rfl) ?_
                        refine And.intro (by with_reducible rfl) ?_
                        conv => whnf
                        refine And.intro (by with_reducible rfl) ?_
                        refine And.intro (by with_reducible rfl) ?_
                        conv => whnf
                        refine And.intro (by with_reducible rfl) ?_
                        refine And.intro (by with_reducible rfl) ?_
                        conv => whnf
                        refine And.intro (by with_reducible rfl) ?_
                        conv => whnf
                        refine And.intro (by with_reducible rfl) ?_
                        refine And.intro (by with_reducible rfl) ?_
                        conv => whnf
                        refine And.intro (by with_reducible rfl) ?_
                        conv => whnf
                        refine And.intro (by with_reducible rfl) ?_
                        conv => whnf
                        refine And.intro (by with_reducible rfl) ?_
                        conv => whnf
                        refine And.intro (by with_reducible rfl) ?_
                        refine And.intro (by with_reducible rfl) ?_
                        conv => whnf
                        refine And.intro (by with_reducible rfl) ?_
                        conv => whnf
                        refine And.intro (by with_reducible rfl) ?_
                        conv => whnf
                        refine And.intro (by with_reducible rfl) ?_
                        conv => whnf
                        refine And.intro (by with_reducible rfl) ?_
                        conv => whnf
                        refine And.intro (by with_reducible rfl) ?_
                        refine And.intro (by with_reducible rfl) ?_
                        conv => whnf
                        refine And.intro (by with_reducible rfl) ?_
                        conv => whnf
                        refine And.intro (by with_reducible rfl) ?_
                        conv => whnf
                        refine And.intro (by with_reducible rfl) ?_
                        conv => whnf
                        refine And.intro (by with_reducible rfl) ?_
                        conv => whnf
                        refine And.intro (by with_reducible rfl) ?_
                        conv => whnf
                        refine And.intro (by with_reducible rfl) ?_
                        conv => whnf
                        refine And.intro (by with_reducible rfl) ?_
                        conv => whnf
                        refine And.intro (by with_reducible rfl) ?_
                        refine And.intro (by with_reducible rfl) ?_
                        conv => whnf
                        refine And.intro (by with_reducible rfl) ?_
                        conv => whnf
                        refine And.intro (by with_reducible rfl) ?_
                        refine And.intro (by with_reducible rfl) ?_
                        conv => whnf
                        refine And.intro (by with_reducible rfl) ?_
                        conv => whnf
                        refine And.intro (by with_reducible rfl) ?_
                        conv => whnf
                        refine And.intro (by with_reducible rfl) ?_
                        conv => whnf
                        refine And.intro (by with_reducible rfl) ?_
                        conv => whnf
                        refine And.intro (by with_reducible rfl) ?_
                        refine And.intro (by with_reducible rfl) ?_
                        conv => whnf
                        refine And.intro (by with_reducible rfl) ?_
                        conv => whnf
                        refine And.intro (by with_reducible rfl) ?_
                        refine And.intro (by with_reducible rfl) ?_
                        conv => whnf
                        refine And.intro (by with_reducible rfl) ?_
                        conv => whnf
                        refine And.intro (by with_reducible rfl) ?_
                        conv => whnf
                        refine And.intro (by with_reducible rfl) ?_
                        conv => whnf
                        refine And.intro (by with_reducible rfl) ?_
                        conv => whnf
                        refine And.intro (by with_reducible rfl) ?_
                        refine And.intro (by with_reducible rfl) ?_
                        conv => whnf
                        refine And.intro (by with_reducible rfl) ?_
                        conv => whnf
                        refine And.intro (by with_reducible rfl) ?_
                        conv => whnf
                        refine And.intro (by with_reducible rfl) ?_
                        refine And.intro (by with_reducible rfl) ?_
                        conv => whnf
                        refine And.intro (by with_reducible rfl) ?_
                        conv => whnf
                        refine And.intro (by with_reducible rfl) ?_
                        conv => whnf
                        refine And.intro (by with_reducible rfl) ?_
                        conv => whnf
                        refine And.intro (by with_reducible rfl) ?_
                        conv => whnf
                        refine And.intro (by with_reducible rfl) ?_
                        refine And.intro (by with_reducible rfl) ?_
                        conv => whnf
                        refine And.intro (by with_reducible rfl) ?_
                        conv => whnf
                        refine And.intro (by with_reducible rfl) ?_
                        conv => whnf
                        refine And.intro (by (simp only [wrap_i64, wrap_u64, wrap_u32, wrap_u16, wrap_u8, maxLen_eq, mmI] at *; omega)) ?_
                        conv => whnf
                        refine And.intro (by with_reducible rfl) ?_
                        conv => whnf
                        refine And.intro (by with_reducible rfl) ?_
                        conv => whnf
                        refine And.intro (by with_reducible rfl) ?_
                        conv => whnf
                        refine And.intro (by with_reducible rfl) ?_
                        conv => whnf
                        refine And.intro (by with_reducible rfl) ?_
                        conv => whnf
                        refine And.intro (by with_reducible rfl) ?_
                        conv => whnf
                        refine And.intro (by with_reducible rfl) ?_
                        conv => whnf
                        refine And.intro (by with_reducible rfl) ?_
                        conv => whnf
                        refine And.intro (by with_reducible rfl) ?_
                        conv => whnf
                        refine And.intro (by with_reducible rfl) ?_
                        conv => whnf
                        refine And.intro (by with_reducible rfl) ?_
                        conv => whnf
                        refine And.intro (by with_reducible rfl) ?_
                        conv => whnf
                        refine And.intro (by with_reducible rfl) ?_
                        conv => whnf
                        refine And.intro (by with_reducible rfl) ?_
                        conv => whnf
                        refine And.intro (by with_reducible rfl) ?_
                        conv => whnf
                        refine And.intro (by with_reducible rfl) ?_
                        exact True.intro
              · replace hc5 := of_decide_eq_false hc5
                conv => whnf
                refine AV.of_eqv ?_
                conv => whnf
                refine And.intro (by (exact (decide_eq_true ⟨by simp_all, by simp_all, by simp_all, by simp_all, by simp_all, by simp_all, by simp_all, eq_end hIl0.2 (by simp only [map_rows] at *; omega) (by simp only [map_rows] at *; omega)⟩).symm)) ?_
                exact True.intro
        · replace hc3 := of_decide_eq_false (Bool.not_eq_true' _ |>.mp hc3)
          conv => whnf
          refine br_r rfl rfl ?_
          conv => whnf
          refine br_r rfl rfl ?_
          conv => whnf
          refine br_r rfl rfl ?_
          conv => whnf
          refine br_r rfl rfl ?_
          conv => whnf
          refine br_r rfl rfl ?_
          conv => whnf
          refine br_r rfl rfl ?_
          conv => whnf
          refine br_l rfl rfl ?_
          conv => whnf
          refine br_l rfl rfl ?_
          conv => whnf
          refine AV.of_eqv ?_
          conv => whnf
          refine And.intro (by (exact (decide_eq_false (by rintro ⟨h1, h2, h3, h4, h5, h6, h7, h8⟩; simp_all [sm8])).symm)) ?_
          exact True.intro
      · replace hc2 := of_decide_eq_false (Bool.not_eq_true' _ |>.mp hc2)
        conv => whnf
        refine br_r rfl rfl ?_
        conv => whnf
        refine br_r rfl rfl ?_
        conv => whnf
        refine br_r rfl rfl ?_
        conv => whnf
        refine br_r rfl rfl ?_
        conv => whnf
        refine br_l rfl rfl ?_
        conv => whnf
        refine br_r rfl rfl ?_
        conv => whnf
        refine br_r rfl rfl ?_
        conv => whnf
        refine br_r rfl rfl ?_
        conv => whnf
        refine br_r rfl rfl ?_
        conv => whnf
        refine br_r rfl rfl ?_
        conv => whnf
        refine br_r rfl rfl ?_
        conv => whnf
        refine br_r rfl rfl ?_
        conv => whnf
        refine br_l rfl rfl ?_
        conv => whnf
        refine br_l rfl rfl ?_
        conv => whnf
        refine AV.of_eqv ?_
        conv => whnf
        refine And.intro (by exact (decide_eq_false (by omega)).symm) ?_
        exact True.intro
    · simp only [Bool.not_eq_true', Bool.not_eq_false', Bool.and_eq_true, Bool.and_eq_false_imp, Bool.or_eq_true, Bool.or_eq_false_iff, Bool.and_true, Bool.true_and, Bool.not_true, Bool.not_false, decide_eq_true_eq, decide_eq_false_iff_not, Bool.decide_and] at hc1
      conv => whnf
      refine br_r rfl rfl ?_
      conv => whnf
      refine br_r rfl rfl ?_
      conv => whnf
      refine br_r rfl rfl ?_
      conv => whnf
      refine br_r rfl rfl ?_
      conv => whnf
      refine br_l rfl rfl ?_
      conv => whnf
      refine br_r rfl rfl ?_
      conv => whnf
      refine br_r rfl rfl ?_
      conv => whnf
      refine br_r rfl rfl ?_
      conv => whnf
      refine br_r rfl rfl ?_
      conv => whnf
      refine br_r rfl rfl ?_
      conv => whnf
      refine br_l rfl rfl ?_
      conv => whnf
      refine br_r rfl rfl ?_
      conv => whnf
      refine br_r rfl rfl ?_
      conv => whnf
      refine br_r rfl rfl ?_
      conv => whnf
      refine br_r rfl rfl ?_
      conv => whnf
      refine br_r rfl rfl ?_
      conv => whnf
      refine br_r rfl rfl ?_
      conv => whnf
      refine br_r rfl rfl ?_
      conv => whnf
      refine br_l rfl rfl ?_
      conv => whnf
      refine br_l rfl rfl ?_
      conv => whnf
      refine AV.of_eqv ?_
      conv => whnf
      refine And.intro (by exact (decide_eq_false (by omega)).symm) ?_
      exact True.intro
  · replace hc0 := of_decide_eq_false (Bool.not_eq_true' _ |>.mp hc0)
    conv => whnf
    refine br_r rfl rfl ?_
    conv => whnf
    refine br_r rfl rfl ?_
    conv => whnf
    refine br_r rfl rfl ?_
    conv => whnf
    refine br_r rfl rfl ?_
    conv => whnf
    refine br_l rfl rfl ?_
    conv => whnf
    refine br_r rfl rfl ?_
    conv => whnf
    refine br_r rfl rfl ?_
    conv => whnf
    refine br_r rfl rfl ?_
    conv => whnf
    refine br_r rfl rfl ?_
    conv => whnf
    refine br_r rfl rfl ?_
    conv => whnf
    refine br_l rfl rfl ?_
    conv => whnf
    refine br_r rfl rfl ?_
    conv => whnf
    refine br_r rfl rfl ?_
    conv => whnf
    refine br_r rfl rfl ?_
    conv => whnf
    refine br_r rfl rfl ?_
    conv => whnf
    refine br_r rfl rfl ?_
    conv => whnf
    refine br_l rfl rfl ?_
    conv => whnf
    refine br_r rfl rfl ?_
    conv => whnf
    refine br_r rfl rfl ?_
    conv => whnf
    refine br_r rfl rfl ?_
    conv => whnf
    refine br_r rfl rfl ?_
    conv => whnf
    refine br_r rfl rfl ?_
    conv => whnf
    refine br_r rfl rfl ?_
    conv => whnf
    refine br_r rfl rfl ?_
    conv => whnf
    refine br_l rfl rfl ?_
    conv => whnf
    refine br_l rfl rfl ?_
    conv => whnf
    refine AV.of_eqv ?_
    conv => whnf
    refine And.intro (by exact (decide_eq_false (by omega)).symm) ?_
    exact True.intro
end Go.Proofs.Ytkcdeefnkbbacaa

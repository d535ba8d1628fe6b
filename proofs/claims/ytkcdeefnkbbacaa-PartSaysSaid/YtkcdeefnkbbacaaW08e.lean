/- The laws PartSays and PartBack: what is written is read, what is read is written so, and their contracts. -/
import Derived.Test.YtkcdeefnkbbacaaW08d
set_option maxRecDepth 100000
set_option linter.unusedSimpArgs false
set_option linter.unusedVariables false
namespace Go.Proofs.Ytkcdeefnkbbacaa
open Go.RowKit
set_option maxHeartbeats 4000000
theorem q4_pb {a b c d : Int} {r : By} (ha : u32b a) (hb : u32b b) (hc : u32b c) (hd : u32b d) : q4 (pb a b c d ++ r) 0 = a ∧ q4 (pb a b c d ++ r) 1 = b ∧ q4 (pb a b c d ++ r) 2 = c ∧ q4 (pb a b c d ++ r) 3 = d := by
  have ht : (pb a b c d ++ r).take 16 = pb a b c d := take_app (pb_len a b c d)
  have h : ∀ k, k ≤ 3 → q4 (pb a b c d ++ r) k = q4 (pb a b c d) k := fun k hk => by rw [← q4_take (n := 16) (by omega), ht]
  rw [h 0 (by omega), h 1 (by omega), h 2 (by omega), h 3 (by omega)]
  unfold q4 pb
  unfold u32b at ha hb hc hd
  rw [quad_pairB0 _ _ _ _ (by omega), quad_pairB1 _ _ _ _ (by omega), quad_pairB2 _ _ _ _ (by omega), quad_pairB3 _ _ _ _ (by omega)]
  exact ⟨by omega, by omega, by omega, by omega⟩
theorem pb_q4 {r : By} (h : 16 ≤ r.length) : pb (q4 r 0) (q4 r 1) (q4 r 2) (q4 r 3) = r.take 16 := by
  have e := pairB_quad (r.take 16) (by simp; omega)
  have hq : ∀ k, k ≤ 3 → quad (r.take 16) k = quad r k := fun k hk => by
    unfold quad
    rw [List.drop_take, List.take_take, Nat.min_eq_left (by omega)]
  rw [hq 0 (by omega), hq 1 (by omega), hq 2 (by omega), hq 3 (by omega)] at e
  exact e
theorem p2 : (256 : Nat) ^ 2 = 65536 := by decide
theorem b01_b (m : Bool) : 0 ≤ b01 m ∧ b01 m ≤ 1 := by cases m <;> decide
theorem b01_d (m : Bool) : decide (b01 m = 1) = m := by cases m <;> decide
theorem part_back {f a b c d s : Int} {m : Bool} {l : List It} (h : okT f s l) (ha : u32b a) (hb : u32b b) (hc : u32b c) (hd : u32b d) (hl : ∀ x ∈ l, u32b x.2.2.1) : trd (tb f a b c d s m l) = ((f, a, b, c, d, s, m, l), 0) := by
  have hlen := tb_len f a b c d s m l
  obtain ⟨⟨h1, h2⟩, h3, h4, h5, h6⟩ := h
  have hib := (item_back hl h1).1
  have hm := b01_b m
  have t0 : tb f a b c d s m l = nb f 1 ++ (pb a b c d ++ (nb s 2 ++ (nb (b01 m) 1 ++ (all l).1))) := by simp only [tb, List.append_assoc]
  have d1 : (tb f a b c d s m l).drop 1 = pb a b c d ++ (nb s 2 ++ (nb (b01 m) 1 ++ (all l).1)) := by rw [t0, drop_app (nb_len _ _)]
  have d17 : (tb f a b c d s m l).drop 17 = nb s 2 ++ (nb (b01 m) 1 ++ (all l).1) := by rw [show (17 : Nat) = 1 + 16 from rfl, ← List.drop_drop, d1, drop_app (pb_len _ _ _ _)]
  have d19 : (tb f a b c d s m l).drop 19 = nb (b01 m) 1 ++ (all l).1 := by rw [show (19 : Nat) = 17 + 2 from rfl, ← List.drop_drop, d17, drop_app (nb_len _ _)]
  have d20 : (tb f a b c d s m l).drop 20 = (all l).1 := by rw [show (20 : Nat) = 19 + 1 from rfl, ← List.drop_drop, d19, drop_app (nb_len _ _)]
  have eF : tF (tb f a b c d s m l) = f := by unfold tF; rw [t0, take_app (nb_len _ _), val_nb h3 (by rw [p1]; omega)]
  have eM : tM (tb f a b c d s m l) = b01 m := by unfold tM; rw [d19, take_app (nb_len _ _), val_nb hm.1 (by rw [p1]; omega)]
  have eS : tS (tb f a b c d s m l) = s := by unfold tS; rw [d17, take_app (nb_len _ _), val_nb h5 (by rw [p2]; omega)]
  obtain ⟨q0, q1, q2, q3⟩ := q4_pb (r := nb s 2 ++ (nb (b01 m) 1 ++ (all l).1)) ha hb hc hd
  rw [trd_ok (by omega) (by omega) (by rw [d20, hib]) (by rw [eF, eM]; omega)]
  unfold tq
  rw [eF, eM, eS, d1, d20, hib, q0, q1, q2, q3, b01_d]
theorem trd_yes {s : By} (h : (trd s).2 = 0) : ¬ s.length < 20 ∧ ¬ 60 < s.length ∧ (un (s.drop 20)).2 = 0 ∧ ¬ (1 < tM s ∨ 16 ≤ tF s) := by
  unfold trd at h
  split at h
  · cases h
  · split at h
    · cases h
    · split at h
      · rename_i h3; exact absurd h h3
      · split at h
        · cases h
        · rename_i h1 h2 h3 h4
          exact ⟨h1, h2, Classical.not_not.1 h3, h4⟩
theorem tF_b (s : By) : 0 ≤ tF s := Int.natCast_nonneg _
theorem tM_b (s : By) : 0 ≤ tM s := Int.natCast_nonneg _
theorem tS_b (s : By) : 0 ≤ tS s ∧ tS s ≤ 65535 := by
  have h := valB_lt 0 ((s.drop 17).take 2)
  have h1 : ((s.drop 17).take 2).length ≤ 2 := by simp; omega
  have h2 : 256 ^ ((s.drop 17).take 2).length ≤ 256 ^ 2 := Nat.pow_le_pow_right (by omega) h1
  have h3 : (256 : Nat) ^ 2 = 65536 := by decide
  unfold tS
  omega
theorem part_forth {s : By} (h : (trd s).2 = 0) : trd s = (tq s, 0) ∧ okT (tF s) (tS s) (un (s.drop 20)).1 ∧ tb (tF s) (q4 (s.drop 1) 0) (q4 (s.drop 1) 1) (q4 (s.drop 1) 2) (q4 (s.drop 1) 3) (tS s) (decide (tM s = 1)) (un (s.drop 20)).1 = s := by
  obtain ⟨h1, h2, h3, h4⟩ := trd_yes h
  obtain ⟨e1, e2, e3⟩ := item_forth h3
  have b0 := tF_b s
  have b1 := tM_b s
  have b2 := tS_b s
  refine ⟨trd_ok h1 h2 h3 h4, ⟨⟨by rw [e1], by rw [e1]; simp; omega⟩, by omega, by omega, b2.1, b2.2⟩, ?_⟩
  have hm : b01 (decide (tM s = 1)) = tM s := by
    unfold b01
    by_cases hh : tM s = 1
    · simp [hh]
    · simp [hh]; omega
  unfold tb
  rw [hm, e1]
  show (((nb (tF s) 1 ++ _) ++ nb (tS s) 2) ++ nb (tM s) 1) ++ _ = s
  unfold tF tS tM
  rw [nb_val s 1 (by omega), nb_val (s.drop 17) 2 (by simp; omega), nb_val (s.drop 19) 1 (by simp; omega), pb_q4 (by simp; omega)]
  have a0 : s.take 1 ++ (s.drop 1).take 16 = s.take 17 := by rw [show (17 : Nat) = 1 + 16 from rfl, List.take_add]
  have a1 : s.take 17 ++ (s.drop 17).take 2 = s.take 19 := by rw [show (19 : Nat) = 17 + 2 from rfl, List.take_add]
  have a2 : s.take 19 ++ (s.drop 19).take 1 = s.take 20 := by rw [show (20 : Nat) = 19 + 1 from rfl, List.take_add]
  rw [a0, a1, a2, List.take_append_drop]
abbrev r8 : List (List AV) := [[.int .i64 2, .int .i64 0, .int .u32 7, .int .i64 1]]
abbrev m8 : AV := .agg [.int .i64 1, .int .u32 0, .int .u32 0, .int .u32 0, .int .u32 0, .int .i64 258, .bool true, .sl .sh 4 r8]
abbrev z8 : AV := .agg [.int .i64 0, .int .u32 0, .int .u32 0, .int .u32 0, .int .u32 0, .int .i64 0, .bool false, .sl .sh 4 []]
def l8 : List It := [(2, 0, 7, 1)]
def t8 : By := [1, 0, 0, 0, 0, 0, 0, 0, 0, 0, 0, 0, 0, 0, 0, 0, 0, 1, 2, 1, 32, 0, 0, 0, 7, 1]
theorem ok8 : okT 1 258 l8 := by decide
theorem d8 : ∀ x ∈ l8, u32b x.2.2.1 := by intro x hx; rw [List.mem_singleton.1 hx]; unfold u32b; decide
theorem u0 : u32b 0 := by unfold u32b; decide
theorem tb8 : tb 1 0 0 0 0 258 true l8 = t8 := by decide
theorem c8_some : Good Try.prog 98 [] m8 := by
  apply good_at ak98 rfl rfl rfl
  conv => whnf
  refine AV.of_eqv ?_
  conv => whnf
  refine And.intro (by with_reducible rfl) ?_
  conv => whnf
  refine And.intro (by with_reducible rfl) ?_
  conv => whnf
  refine And.intro (by with_reducible rfl) ?_
  conv => whnf
  refine And.intro (by with_reducible rfl) ?_
  conv => whnf
  refine And.intro (by with_reducible rfl) ?_
  conv => whnf
  refine And.intro (by with_reducible rfl) ?_
  conv => whnf
  refine And.intro (by with_reducible rfl) ?_
  conv => whnf
  refine And.intro (by with_reducible rfl) ?_
  exact True.intro
theorem c8_b : Good Try.prog 28 [m8] (.tuple [.str [1, 0, 0, 0, 0, 0, 0, 0, 0, 0, 0, 0, 0, 0, 0, 0, 0, 1, 2, 1, 32, 0, 0, 0, 7, 1], .int .i64 0]) :=
  (tbytes_good 1 0 0 0 0 258 true l8 u0 u0 u0 u0 (by decide) d8).eq (by rw [tbR_yes ok8, tb8]; rfl)
theorem c8_r : Good Try.prog 30 [.str [1, 0, 0, 0, 0, 0, 0, 0, 0, 0, 0, 0, 0, 0, 0, 0, 0, 1, 2, 1, 32, 0, 0, 0, 7, 1]] (.tuple [m8, .int .i64 0]) :=
  (tread_good t8 (by decide)).eq (by rw [← tb8, part_back ok8 u0 u0 u0 u0 d8]; rfl)
theorem c8_s : Good Try.prog 30 [.str [115, 104, 111, 114, 116]] (.tuple [z8, .int .i64 2]) :=
  (tread_good _ (by decide)).eq (by rw [trd_short (by decide)]; rfl)
theorem c8_n : Good Try.prog 28 [.agg [.int .i64 16, .int .u32 0, .int .u32 0, .int .u32 0, .int .u32 0, .int .i64 0, .bool false, .sl .sh 4 []]] (.tuple [.str [], .int .i64 1]) :=
  (tbytes_good 16 0 0 0 0 0 false [] u0 u0 u0 u0 (by decide) (by simp)).eq (by rw [tbR_no (by decide)])
theorem c8_no : Good Try.prog 28 [.agg [.int .i64 16, .int .u32 0, .int .u32 0, .int .u32 0, .int .u32 0, .int .i64 0, .bool false, .sl .own 4 []]] (.tuple [.str [], .int .i64 1]) := Good.deep c8_n
theorem c8_m : Good Try.prog 35 [m8, m8] (.bool true) :=
  (tsame_good 1 0 0 0 0 258 true l8 1 0 0 0 0 258 true l8 (by decide) (by decide)).eq (by rw [decide_eq_true (by decide)])
theorem c8_z : Good Try.prog 35 [m8, z8] (.bool false) :=
  (tsame_good 1 0 0 0 0 258 true l8 0 0 0 0 0 0 false [] (by decide) (by decide)).eq (by rw [decide_eq_false (by decide)])
theorem c8_zo : Good Try.prog 35 [m8, .agg [.int .i64 0, .int .u32 0, .int .u32 0, .int .u32 0, .int .u32 0, .int .i64 0, .bool false, .sl .own 4 []]] (.bool false) := Good.deep c8_z
theorem c8_ok : Good Try.prog 32 [m8] (.bool true) :=
  (tright_good 1 0 0 0 0 258 true l8 (by decide) d8).eq (by rw [decide_eq_true ok8])
theorem awake8_good : Good Try.prog 27 [] (.bool true) := by
  apply good_at ak27 rfl rfl rfl
  conv => whnf
  refine ⟨_, c8_some, ?_⟩
  conv => whnf
  refine ⟨_, c8_b, ?_⟩
  conv => whnf
  refine ⟨_, c8_r, ?_⟩
  conv => whnf
  refine ⟨_, c8_s, ?_⟩
  conv => whnf
  refine ⟨_, c8_no, ?_⟩
  conv => whnf
  refine br_r rfl rfl ?_
  conv => whnf
  refine And.intro (by decide) ?_
  conv => whnf
  refine br_l rfl rfl ?_
  conv => whnf
  refine br_l rfl rfl ?_
  conv => whnf
  refine And.intro (by decide) ?_
  refine And.intro (by decide) ?_
  refine And.intro (by decide) ?_
  conv => whnf
  refine br_l rfl rfl ?_
  conv => whnf
  refine br_l rfl rfl ?_
  conv => whnf
  refine br_l rfl rfl ?_
  conv => whnf
  refine br_l rfl rfl ?_
  conv => whnf
  refine br_l rfl rfl ?_
  conv => whnf
  refine br_l rfl rfl ?_
  conv => whnf
  refine br_l rfl rfl ?_
  conv => whnf
  refine ⟨_, c8_some, ?_⟩
  conv => whnf
  refine br_l rfl rfl ?_
  conv => whnf
  refine ⟨_, c8_m, ?_⟩
  conv => whnf
  refine br_l rfl rfl ?_
  conv => whnf
  refine br_l rfl rfl ?_
  conv => whnf
  refine br_l rfl rfl ?_
  conv => whnf
  refine br_l rfl rfl ?_
  conv => whnf
  refine br_l rfl rfl ?_
  conv => whnf
  refine br_l rfl rfl ?_
  conv => whnf
  refine br_l rfl rfl ?_
  conv => whnf
  refine br_l rfl rfl ?_
  conv => whnf
  refine br_l rfl rfl ?_
  conv => whnf
  refine ⟨_, c8_ok, ?_⟩
  conv => whnf
  refine br_l rfl rfl ?_
  conv => whnf
  refine br_l rfl rfl ?_
  conv => whnf
  refine br_l rfl rfl ?_
  conv => whnf
  refine br_l rfl rfl ?_
  conv => whnf
  refine ⟨_, c8_zo, ?_⟩
  conv => whnf
  refine br_l rfl rfl ?_
  conv => whnf
  refine br_l rfl rfl ?_
  conv => whnf
  refine AV.of_eqv ?_
  conv => whnf
  refine And.intro (by decide) ?_
  exact True.intro
theorem lng8_good (f a b c d s : Int) (m : Bool) (l : List It) : Good Try.prog 26 [eT f a b c d s m l] (.bool (decide (100 < l.length))) := by
  apply good_at ak26 rfl rfl rfl
  conv => whnf
  refine AV.of_eqv ?_
  conv => whnf
  refine And.intro (by (exact decide_eq_decide.2 (by simp only [map_rows]; omega))) ?_
  exact True.intro
theorem tbytes_y {f a b c d s : Int} {m : Bool} {l : List It} (hk : okT f s l) (ha : u32b a) (hb : u32b b) (hc : u32b c) (he : u32b d) (hl : l.length ≤ 1000000) (hd : ∀ x ∈ l, u32b x.2.2.1) : Good Try.prog 28 [eT f a b c d s m l] (.tuple [.str (tb f a b c d s m l), .int .i64 0]) :=
  (tbytes_good f a b c d s m l ha hb hc he hl hd).eq (by rw [tbR_yes hk])
theorem tbytes_n {f a b c d s : Int} {m : Bool} {l : List It} (hk : ¬ okT f s l) (ha : u32b a) (hb : u32b b) (hc : u32b c) (he : u32b d) (hl : l.length ≤ 1000000) (hd : ∀ x ∈ l, u32b x.2.2.1) : Good Try.prog 28 [eT f a b c d s m l] (.tuple [.str [], .int .i64 1]) :=
  (tbytes_good f a b c d s m l ha hb hc he hl hd).eq (by rw [tbR_no hk])
theorem tread_b {f a b c d s : Int} {m : Bool} {l : List It} (hk : okT f s l) (ha : u32b a) (hb : u32b b) (hc : u32b c) (he : u32b d) (hd : ∀ x ∈ l, u32b x.2.2.1) : Good Try.prog 30 [.str (tb f a b c d s m l)] (.tuple [eT f a b c d s m l, .int .i64 0]) :=
  (tread_good _ (by have := tb_len f a b c d s m l; have := hk.1.2; omega)).eq (by rw [part_back hk ha hb hc he hd])
theorem tsame_s (f a b c d s : Int) (m : Bool) (l : List It) (hl : l.length ≤ 1000000) : Good Try.prog 35 [eT f a b c d s m l, eT f a b c d s m l] (.bool true) :=
  (tsame_good f a b c d s m l f a b c d s m l hl hl).eq (by rw [decide_eq_true ⟨rfl, rfl, rfl, rfl, rfl, rfl, rfl, rfl⟩])
theorem rtsame_s (f a b c d s : Int) (m : Bool) (l : List It) (hl : l.length ≤ 1000000) : Good Try.prog 34 [eT f a b c d s m l, eT f a b c d s m l] (.bool true) :=
  (rtsame_good f a b c d s m l f a b c d s m l hl hl).eq (by rw [decide_eq_true ⟨rfl, rfl, rfl, rfl, rfl, rfl, rfl, rfl⟩])
theorem tread_f {s : By} (h : (trd s).2 = 0) (hm : s.length ≤ 1000000) : Good Try.prog 30 [.str s] (.tuple [eQ (tq s), .int .i64 0]) :=
  (tread_good s hm).eq (by rw [(part_forth h).1])
theorem tbytes_f {s : By} (h : (trd s).2 = 0) : Good Try.prog 28 [eQ (tq s)] (.tuple [.str s, .int .i64 0]) :=
  (tbytes_y (part_forth h).2.1 (q4_b _ _) (q4_b _ _) (q4_b _ _) (q4_b _ _) (by have := un_len (s.drop 20); omega) (un_d _)).eq (congrArg (fun x => AV.tuple [.str x, .int .i64 0]) (part_forth h).2.2)
theorem trd_len (s : By) : (trd s).1.2.2.2.2.2.2.2.length ≤ 1000000 := by
  have := un_len (s.drop 20)
  unfold trd
  split
  · simp [noT]
  · split
    · simp [noT]
    · split
      · simp [noT]
      · split
        · simp [noT]
        · show (un (s.drop 20)).1.length ≤ _; omega
theorem partBack_good (f a b c d q : Int) (m : Bool) (l : List It) (s : By) (ha : u32b a) (hb : u32b b) (hc : u32b c) (he : u32b d) (hd : ∀ x ∈ l, u32b x.2.2.1) : Good Try.prog 6 [eT f a b c d q m l, .str s] (.bool true) := by
  have hlen := tb_len f a b c d q m l
  by_cases hk : okT f q l
  · have hk2 := hk.1.2
    by_cases h : (trd s).2 = 0
    · apply good_at ak6 rfl rfl rfl
      conv => whnf
      refine ⟨_, lng8_good _ _ _ _ _ _ _ _, ?_⟩
      conv => whnf
      refine And.intro (fun hc0 => ?_) (fun hc0 => ?_)
      · replace hc0 := of_decide_eq_false hc0
        conv => whnf
        refine br_l rfl rfl ?_
        conv => whnf
        refine br_l rfl rfl ?_
        conv => whnf
        refine br_r rfl rfl ?_
        conv => whnf
        refine And.intro (fun hc1 => ?_) (fun hc1 => ?_)
        · replace hc1 := of_decide_eq_true hc1
          conv => whnf
          refine ⟨_, awake8_good, ?_⟩
          conv => whnf
          refine AV.of_eqv ?_
          conv => whnf
          refine And.intro (by with_reducible rfl) ?_
          exact True.intro
        · replace hc1 := of_decide_eq_false hc1
          conv => whnf
          refine ⟨_, (tbytes_y hk ha hb hc he) ?_ ?_, ?_⟩
          · omega
          · assumption
          · conv => whnf
            refine br_l rfl rfl ?_
            conv => whnf
            refine ⟨_, (tread_b hk ha hb hc he hd), ?_⟩
            conv => whnf
            refine br_l rfl rfl ?_
            conv => whnf
            refine br_l rfl rfl ?_
            conv => whnf
            refine br_l rfl rfl ?_
            conv => whnf
            refine ⟨_, tsame_s _ _ _ _ _ _ _ _ ?_, ?_⟩
            · omega
            · conv => whnf
              refine br_l rfl rfl ?_
              conv => whnf
              refine br_r rfl rfl ?_
              conv => whnf
              refine br_l rfl rfl ?_
              conv => whnf
              refine br_l rfl rfl ?_
              conv => whnf
              refine br_l rfl rfl ?_
              conv => whnf
              refine br_r rfl rfl ?_
              conv => whnf
              refine And.intro (fun hc2 => ?_) (fun hc2 => ?_)
              · replace hc2 := of_decide_eq_true hc2
                (exfalso; omega)
              · replace hc2 := of_decide_eq_false hc2
                conv => whnf
                refine ⟨_, (tread_f h) ?_, ?_⟩
                · omega
                · conv => whnf
                  refine br_l rfl rfl ?_
                  conv => whnf
                  refine ⟨_, (tbytes_f h), ?_⟩
                  conv => whnf
                  refine br_l rfl rfl ?_
                  conv => whnf
                  refine br_l rfl rfl ?_
                  conv => whnf
                  refine br_l rfl rfl ?_
                  conv => whnf
                  refine br_l rfl rfl ?_
                  conv => whnf
                  refine And.intro (fun hc3 => ?_) (fun hc3 => ?_)
                  · replace hc3 := of_decide_eq_true hc3
                    conv => whnf
                    refine ⟨_, awake8_good, ?_⟩
                    conv => whnf
                    refine br_l rfl rfl ?_
                    conv => whnf
                    refine AV.of_eqv ?_
                    conv => whnf
                    refine And.intro (by with_reducible rfl) ?_
                    exact True.intro
                  · replace hc3 := of_decide_eq_false hc3
                    contradiction
      · replace hc0 := of_decide_eq_true hc0
        conv => whnf
        refine br_r rfl rfl ?_
        conv => whnf
        refine br_r rfl rfl ?_
        conv => whnf
        refine br_l rfl rfl ?_
        conv => whnf
        refine br_l rfl rfl ?_
        conv => whnf
        refine ⟨_, awake8_good, ?_⟩
        conv => whnf
        refine AV.of_eqv ?_
        conv => whnf
        refine And.intro (by with_reducible rfl) ?_
        exact True.intro
    · apply good_at ak6 rfl rfl rfl
      conv => whnf
      refine ⟨_, lng8_good _ _ _ _ _ _ _ _, ?_⟩
      conv => whnf
      refine And.intro (fun hc0 => ?_) (fun hc0 => ?_)
      · replace hc0 := of_decide_eq_false hc0
        conv => whnf
        refine br_l rfl rfl ?_
        conv => whnf
        refine br_l rfl rfl ?_
        conv => whnf
        refine br_r rfl rfl ?_
        conv => whnf
        refine And.intro (fun hc1 => ?_) (fun hc1 => ?_)
        · replace hc1 := of_decide_eq_true hc1
          conv => whnf
          refine ⟨_, awake8_good, ?_⟩
          conv => whnf
          refine AV.of_eqv ?_
          conv => whnf
          refine And.intro (by with_reducible rfl) ?_
          exact True.intro
        · replace hc1 := of_decide_eq_false hc1
          conv => whnf
          refine ⟨_, (tbytes_y hk ha hb hc he) ?_ ?_, ?_⟩
          · omega
          · assumption
          · conv => whnf
            refine br_l rfl rfl ?_
            conv => whnf
            refine ⟨_, (tread_b hk ha hb hc he hd), ?_⟩
            conv => whnf
            refine br_l rfl rfl ?_
            conv => whnf
            refine br_l rfl rfl ?_
            conv => whnf
            refine br_l rfl rfl ?_
            conv => whnf
            refine ⟨_, tsame_s _ _ _ _ _ _ _ _ ?_, ?_⟩
            · omega
            · conv => whnf
              refine br_l rfl rfl ?_
              conv => whnf
              refine br_r rfl rfl ?_
              conv => whnf
              refine br_l rfl rfl ?_
              conv => whnf
              refine br_l rfl rfl ?_
              conv => whnf
              refine br_l rfl rfl ?_
              conv => whnf
              refine br_r rfl rfl ?_
              conv => whnf
              refine And.intro (fun hc2 => ?_) (fun hc2 => ?_)
              · replace hc2 := of_decide_eq_true hc2
                (exfalso; omega)
              · replace hc2 := of_decide_eq_false hc2
                conv => whnf
                refine ⟨_, (tread_good s) ?_, ?_⟩
                · omega
                · conv => whnf
                  refine And.intro (fun hc3 => ?_) (fun hc3 => ?_)
                  · replace hc3 := of_decide_eq_true hc3
                    contradiction
                  · replace hc3 := of_decide_eq_false hc3
                    conv => whnf
                    refine ⟨_, awake8_good, ?_⟩
                    conv => whnf
                    refine AV.of_eqv ?_
                    conv => whnf
                    refine And.intro (by with_reducible rfl) ?_
                    exact True.intro
      · replace hc0 := of_decide_eq_true hc0
        conv => whnf
        refine br_r rfl rfl ?_
        conv => whnf
        refine br_r rfl rfl ?_
        conv => whnf
        refine br_l rfl rfl ?_
        conv => whnf
        refine br_l rfl rfl ?_
        conv => whnf
        refine ⟨_, awake8_good, ?_⟩
        conv => whnf
        refine AV.of_eqv ?_
        conv => whnf
        refine And.intro (by with_reducible rfl) ?_
        exact True.intro
  · by_cases h : (trd s).2 = 0
    · apply good_at ak6 rfl rfl rfl
      conv => whnf
      refine ⟨_, lng8_good _ _ _ _ _ _ _ _, ?_⟩
      conv => whnf
      refine And.intro (fun hc0 => ?_) (fun hc0 => ?_)
      · replace hc0 := of_decide_eq_false hc0
        conv => whnf
        refine br_l rfl rfl ?_
        conv => whnf
        refine br_l rfl rfl ?_
        conv => whnf
        refine br_r rfl rfl ?_
        conv => whnf
        refine And.intro (fun hc1 => ?_) (fun hc1 => ?_)
        · replace hc1 := of_decide_eq_true hc1
          conv => whnf
          refine ⟨_, awake8_good, ?_⟩
          conv => whnf
          refine AV.of_eqv ?_
          conv => whnf
          refine And.intro (by with_reducible rfl) ?_
          exact True.intro
        · replace hc1 := of_decide_eq_false hc1
          conv => whnf
          refine ⟨_, (tbytes_n hk ha hb hc he) ?_ ?_, ?_⟩
          · omega
          · assumption
          · conv => whnf
            refine br_r rfl rfl ?_
            conv => whnf
            refine ⟨_, (tread_f h) ?_, ?_⟩
            · omega
            · conv => whnf
              refine br_l rfl rfl ?_
              conv => whnf
              refine ⟨_, (tbytes_f h), ?_⟩
              conv => whnf
              refine br_l rfl rfl ?_
              conv => whnf
              refine br_l rfl rfl ?_
              conv => whnf
              refine br_l rfl rfl ?_
              conv => whnf
              refine br_l rfl rfl ?_
              conv => whnf
              refine And.intro (fun hc2 => ?_) (fun hc2 => ?_)
              · replace hc2 := of_decide_eq_true hc2
                conv => whnf
                refine ⟨_, awake8_good, ?_⟩
                conv => whnf
                refine br_l rfl rfl ?_
                conv => whnf
                refine AV.of_eqv ?_
                conv => whnf
                refine And.intro (by with_reducible rfl) ?_
                exact True.intro
              · replace hc2 := of_decide_eq_false hc2
                contradiction
      · replace hc0 := of_decide_eq_true hc0
        conv => whnf
        refine br_r rfl rfl ?_
        conv => whnf
        refine br_r rfl rfl ?_
        conv => whnf
        refine br_l rfl rfl ?_
        conv => whnf
        refine br_l rfl rfl ?_
        conv => whnf
        refine ⟨_, awake8_good, ?_⟩
        conv => whnf
        refine AV.of_eqv ?_
        conv => whnf
        refine And.intro (by with_reducible rfl) ?_
        exact True.intro
    · apply good_at ak6 rfl rfl rfl
      conv => whnf
      refine ⟨_, lng8_good _ _ _ _ _ _ _ _, ?_⟩
      conv => whnf
      refine And.intro (fun hc0 => ?_) (fun hc0 => ?_)
      · replace hc0 := of_decide_eq_false hc0
        conv => whnf
        refine br_l rfl rfl ?_
        conv => whnf
        refine br_l rfl rfl ?_
        conv => whnf
        refine br_r rfl rfl ?_
        conv => whnf
        refine And.intro (fun hc1 => ?_) (fun hc1 => ?_)
        · replace hc1 := of_decide_eq_true hc1
          conv => whnf
          refine ⟨_, awake8_good, ?_⟩
          conv => whnf
          refine AV.of_eqv ?_
          conv => whnf
          refine And.intro (by with_reducible rfl) ?_
          exact True.intro
        · replace hc1 := of_decide_eq_false hc1
          conv => whnf
          refine ⟨_, (tbytes_n hk ha hb hc he) ?_ ?_, ?_⟩
          · omega
          · assumption
          · conv => whnf
            refine br_r rfl rfl ?_
            conv => whnf
            refine ⟨_, (tread_good s) ?_, ?_⟩
            · omega
            · conv => whnf
              refine And.intro (fun hc2 => ?_) (fun hc2 => ?_)
              · replace hc2 := of_decide_eq_true hc2
                contradiction
              · replace hc2 := of_decide_eq_false hc2
                conv => whnf
                refine ⟨_, awake8_good, ?_⟩
                conv => whnf
                refine AV.of_eqv ?_
                conv => whnf
                refine And.intro (by with_reducible rfl) ?_
                exact True.intro
      · replace hc0 := of_decide_eq_true hc0
        conv => whnf
        refine br_r rfl rfl ?_
        conv => whnf
        refine br_r rfl rfl ?_
        conv => whnf
        refine br_l rfl rfl ?_
        conv => whnf
        refine br_l rfl rfl ?_
        conv => whnf
        refine ⟨_, awake8_good, ?_⟩
        conv => whnf
        refine AV.of_eqv ?_
        conv => whnf
        refine And.intro (by with_reducible rfl) ?_
        exact True.intro
theorem partSays_good (f a b c d q : Int) (m : Bool) (l : List It) (f' a' b' c' d' q' : Int) (m' : Bool) (l' : List It) (s : By) (ha : u32b a) (hb : u32b b) (hc : u32b c) (he : u32b d) (hd : ∀ x ∈ l, u32b x.2.2.1) : Good Try.prog 5 [eT f a b c d q m l, eT f' a' b' c' d' q' m' l', .str s] (.bool true) := by
  have hln := trd_len s
  apply good_at ak5 rfl rfl rfl
  conv => whnf
  refine ⟨_, lng8_good _ _ _ _ _ _ _ _, ?_⟩
  conv => whnf
  refine And.intro (fun hc0 => ?_) (fun hc0 => ?_)
  · replace hc0 := of_decide_eq_false hc0
    conv => whnf
    refine br_l rfl rfl ?_
    conv => whnf
    refine ⟨_, lng8_good _ _ _ _ _ _ _ _, ?_⟩
    conv => whnf
    refine br_r rfl rfl ?_
    conv => whnf
    refine And.intro (fun hc1 => ?_) (fun hc1 => ?_)
    · replace hc1 := of_decide_eq_false hc1
      conv => whnf
      refine br_l rfl rfl ?_
      conv => whnf
      refine br_l rfl rfl ?_
      conv => whnf
      refine br_r rfl rfl ?_
      conv => whnf
      refine And.intro (fun hc2 => ?_) (fun hc2 => ?_)
      · replace hc2 := of_decide_eq_true hc2
        conv => whnf
        refine ⟨_, awake8_good, ?_⟩
        conv => whnf
        refine AV.of_eqv ?_
        conv => whnf
        refine And.intro (by with_reducible rfl) ?_
        exact True.intro
      · replace hc2 := of_decide_eq_false hc2
        conv => whnf
        refine ⟨_, (tbytes_good f a b c d q m l ha hb hc he) ?_ ?_, ?_⟩
        · omega
        · assumption
        · conv => whnf
          refine ⟨_, (rtbytes_good f a b c d q m l ha hb hc he) ?_ ?_, ?_⟩
          · omega
          · assumption
          · conv => whnf
            refine ⟨_, (tread_good s) ?_, ?_⟩
            · omega
            · conv => whnf
              refine ⟨_, (rtread_good s), ?_⟩
              conv => whnf
              refine And.intro (by exact rfl) ?_
              conv => whnf
              refine ⟨_, tright_good _ _ _ _ _ _ _ _ ?_ ?_, ?_⟩
              · omega
              · assumption
              · conv => whnf
                refine ⟨_, rtright_good _ _ _ _ _ _ _ _ ?_ ?_, ?_⟩
                · omega
                · assumption
                · conv => whnf
                  refine And.intro (fun hc3 => ?_) (fun hc3 => ?_)
                  · replace hc3 := of_decide_eq_true hc3
                    conv => whnf
                    refine br_l rfl rfl ?_
                    conv => whnf
                    refine br_l rfl rfl ?_
                    conv => whnf
                    refine br_l rfl rfl ?_
                    conv => whnf
                    refine And.intro (fun hc4 => ?_) (fun hc4 => ?_)
                    · replace hc4 := of_decide_eq_true hc4
                      conv => whnf
                      refine br_l rfl rfl ?_
                      conv => whnf
                      refine br_l rfl rfl ?_
                      conv => whnf
                      refine br_l rfl rfl ?_
                      conv => whnf
                      refine And.intro (fun hc5 => ?_) (fun hc5 => ?_)
                      · replace hc5 := of_decide_eq_true hc5
                        conv => whnf
                        refine br_l rfl rfl ?_
                        conv => whnf
                        refine br_l rfl rfl ?_
                        conv => whnf
                        refine ⟨_, rtsame_s _ _ _ _ _ _ _ _ ?_, ?_⟩
                        · assumption
                        · conv => whnf
                          refine br_l rfl rfl ?_
                          conv => whnf
                          refine br_l rfl rfl ?_
                          conv => whnf
                          refine br_l rfl rfl ?_
                          conv => whnf
                          refine br_l rfl rfl ?_
                          conv => whnf
                          refine br_l rfl rfl ?_
                          conv => whnf
                          refine And.intro (fun hc6 => ?_) (fun hc6 => ?_)
                          · replace hc6 := of_decide_eq_true hc6
                            conv => whnf
                            refine br_l rfl rfl ?_
                            conv => whnf
                            refine br_l rfl rfl ?_
                            conv => whnf
                            refine ⟨_, tsame_good _ _ _ _ _ _ _ _ _ _ _ _ _ _ _ _ ?_ ?_, ?_⟩
                            · omega
                            · omega
                            · conv => whnf
                              refine br_l rfl rfl ?_
                              conv => whnf
                              refine br_l rfl rfl ?_
                              conv => whnf
                              refine br_l rfl rfl ?_
                              conv => whnf
                              refine ⟨_, rtsame_good _ _ _ _ _ _ _ _ _ _ _ _ _ _ _ _ ?_ ?_, ?_⟩
                              · omega
                              · omega
                              · conv => whnf
                                refine br_l rfl rfl ?_
                                conv => whnf
                                refine br_l rfl rfl ?_
                                conv => whnf
                                refine And.intro (fun hc7 => ?_) (fun hc7 => ?_)
                                · replace hc7 := of_decide_eq_true hc7
                                  conv => whnf
                                  refine ⟨_, awake8_good, ?_⟩
                                  conv => whnf
                                  refine br_l rfl rfl ?_
                                  conv => whnf
                                  refine AV.of_eqv ?_
                                  conv => whnf
                                  refine And.intro (by with_reducible rfl) ?_
                                  exact True.intro
                                · replace hc7 := of_decide_eq_false hc7
                                  contradiction
                          · replace hc6 := of_decide_eq_false hc6
                            contradiction
                      · replace hc5 := of_decide_eq_false hc5
                        contradiction
                    · replace hc4 := of_decide_eq_false hc4
                      contradiction
                  · replace hc3 := of_decide_eq_false hc3
                    contradiction
    · replace hc1 := of_decide_eq_true hc1
      conv => whnf
      refine br_r rfl rfl ?_
      conv => whnf
      refine br_r rfl rfl ?_
      conv => whnf
      refine br_l rfl rfl ?_
      conv => whnf
      refine br_l rfl rfl ?_
      conv => whnf
      refine ⟨_, awake8_good, ?_⟩
      conv => whnf
      refine AV.of_eqv ?_
      conv => whnf
      refine And.intro (by with_reducible rfl) ?_
      exact True.intro
  · replace hc0 := of_decide_eq_true hc0
    conv => whnf
    refine br_r rfl rfl ?_
    conv => whnf
    refine br_l rfl rfl ?_
    conv => whnf
    refine br_r rfl rfl ?_
    conv => whnf
    refine br_r rfl rfl ?_
    conv => whnf
    refine br_r rfl rfl ?_
    conv => whnf
    refine br_l rfl rfl ?_
    conv => whnf
    refine br_l rfl rfl ?_
    conv => whnf
    refine ⟨_, awake8_good, ?_⟩
    conv => whnf
    refine AV.of_eqv ?_
    conv => whnf
    refine And.intro (by with_reducible rfl) ?_
    exact True.intro
end Go.Proofs.Ytkcdeefnkbbacaa

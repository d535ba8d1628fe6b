/- The law ItemBack: what its walk calls, what items are in bytes, and its contract. -/
import Derived.Test.YtkcdeefnkbbacaaAll
set_option maxRecDepth 100000
set_option linter.unusedSimpArgs false
set_option linter.unusedVariables false
namespace Go.Proofs.Ytkcdeefnkbbacaa
open Go.RowKit
set_option maxHeartbeats 4000000
theorem val_nb {x : Int} {k : Nat} (h0 : 0 ≤ x) (h : x.toNat < 256 ^ k) : ((valB 0 (nb x k) : Nat) : Int) = x := by
  unfold nb
  rw [valB_numB, Nat.zero_mul, Nat.zero_add, Nat.mod_eq_of_lt h]
  exact Int.toNat_of_nonneg h0
theorem nb_val (s : By) (k : Nat) (h : k ≤ s.length) : nb ((valB 0 (s.take k) : Nat) : Int) k = s.take k := by
  have := numB_valB 0 (s.take k)
  rw [List.length_take, Nat.min_eq_left h] at this
  unfold nb
  rw [Int.toNat_natCast]
  exact this
theorem p1 : (256 : Nat) ^ 1 = 256 := by decide
theorem p4 : (256 : Nat) ^ 4 = 4294967296 := by decide
theorem take_app {a b : By} {k : Nat} (h : a.length = k) : (a ++ b).take k = a := by subst h; simp
theorem drop_app {a b : By} {k : Nat} (h : a.length = k) : (a ++ b).drop k = b := by subst h; simp
theorem itm_ib {x : It} {r : By} (h : okI x) (hd : u32b x.2.2.1) : itm (ib x ++ r) = x := by
  have e0 : ib x ++ r = nb (16 * x.1 + x.2.1) 1 ++ (nb x.2.2.1 4 ++ (nb (p255 x.2.2.2) 1 ++ r)) := by simp [ib, List.append_assoc]
  have v0 : ((valB 0 (nb (16 * x.1 + x.2.1) 1) : Nat) : Int) = 16 * x.1 + x.2.1 := val_nb (by unfold okI at h; omega) (by rw [p1]; unfold okI at h; omega)
  have v1 : ((valB 0 (nb x.2.2.1 4) : Nat) : Int) = x.2.2.1 := val_nb hd.1 (by rw [p4]; unfold u32b at hd; omega)
  have hp : 0 ≤ p255 x.2.2.2 ∧ p255 x.2.2.2 ≤ 255 := by unfold p255; split <;> (unfold okI at h; omega)
  have v2 : ((valB 0 (nb (p255 x.2.2.2) 1) : Nat) : Int) = p255 x.2.2.2 := val_nb hp.1 (by rw [p1]; omega)
  refine (itm_of ?_ ?_ ?_ ?_).symm
  · rw [e0, take_app (nb_len _ _), v0]; unfold okI at h; omega
  · rw [e0, take_app (nb_len _ _), v0]; unfold okI at h; omega
  · rw [e0, drop_app (nb_len _ _), take_app (nb_len _ _), v1]
  · rw [e0, drop_app (nb_len _ _), drop_app (nb_len _ _), take_app (nb_len _ _), v2]
    unfold p255
    split
    · rw [if_pos rfl]; assumption
    · rw [if_neg (by unfold okI at h; omega)]
theorem irdR_ib {x : It} {r : By} (h : okI x) (hd : u32b x.2.2.1) : irdR (ib x ++ r) = (x, r, 0) := by
  have e := itm_ib (r := r) h hd
  rw [irdR_ok (by rw [List.length_append, ib_len]; omega) (by rw [e]; exact h), e, drop_app (ib_len x)]
theorem ib_itm {s : By} (h : 6 ≤ s.length) : ib (itm s) = s.take 6 := by
  have b0 := val1_b s
  have b5 := val1_b ((s.drop 1).drop 4)
  have e0 : 16 * (itm s).1 + (itm s).2.1 = ((valB 0 (s.take 1) : Nat) : Int) := by show 16 * (_ / 16) + _ % 16 = _; omega
  have e2 : p255 (itm s).2.2.2 = ((valB 0 (((s.drop 1).drop 4).take 1) : Nat) : Int) := by
    show p255 (ite _ _ _) = _
    unfold p255
    split
    · rename_i hh; rw [if_pos rfl, hh]
    · rw [if_neg (by omega)]
  have e1 : (itm s).2.2.1 = ((valB 0 ((s.drop 1).take 4) : Nat) : Int) := rfl
  unfold ib
  rw [e0, e1, e2, nb_val s 1 (by omega), nb_val (s.drop 1) 4 (by simp; omega), nb_val ((s.drop 1).drop 4) 1 (by simp; omega)]
  rw [show (6 : Nat) = 1 + 4 + 1 from rfl, List.take_add, List.take_add, List.drop_drop, List.append_assoc]
/-- what is written is read -/
theorem back_key : ∀ (l : List It) (i : Nat) (out r : By), (∀ x ∈ l, u32b x.2.2.1) → allR i l out = (r, 0) → ∃ t, r = out ++ t ∧ t.length = 6 * l.length ∧ i + l.length ≤ max i 48 ∧ ∀ (n : Nat) (o : List It), t.length ≤ n → o.length = i → unR n t o = (o ++ l, 0) := by
  intro l
  induction l with
  | nil =>
    intro i out r _ h
    cases h
    refine ⟨[], by simp, rfl, by simp; omega, fun n o _ _ => ?_⟩
    cases n <;> simp [unR]
  | cons x l ih =>
    intro i out r hd h
    unfold allR at h
    split at h
    · rename_i hb
      split at h
      · cases h
      · rename_i hi
        rcases ibR_e x with ⟨ho, _, h1⟩ | ⟨_, h2, _⟩
        · obtain ⟨t, e1, e2, e3, e4⟩ := ih (i + 1) _ r (fun y hy => hd y (by simp [hy])) h
          rw [h1] at e1
          refine ⟨ib x ++ t, by rw [e1, List.append_assoc], by rw [List.length_append, ib_len, e2, List.length_cons]; omega, by rw [List.length_cons]; omega, fun n o hn hl => ?_⟩
          have hr := irdR_ib (r := t) ho (hd x (by simp))
          cases n with
          | zero => rw [List.length_append, ib_len] at hn; omega
          | succ n =>
            unfold unR
            rw [if_neg (by intro hz; have := congrArg List.length hz; rw [List.length_append, ib_len] at this; simp at this), hr, if_pos rfl, if_neg (by simp; omega)]
            have := e4 n (o ++ [x]) (by rw [List.length_append, ib_len] at hn; omega) (by simp; omega)
            simp only
            rw [this, List.append_assoc]; rfl
        · rw [hb] at h2; cases h2
    · rename_i hb
      have := congrArg Prod.snd h
      exact absurd this hb
theorem item_back {l : List It} (hd : ∀ x ∈ l, u32b x.2.2.1) (h : (all l).2 = 0) : un (all l).1 = (l, 0) ∧ (all l).1.length = 6 * l.length ∧ l.length ≤ 48 := by
  obtain ⟨t, e1, e2, e3, e4⟩ := back_key l 0 [] (all l).1 hd (by rw [← h]; rfl)
  rw [List.nil_append] at e1
  rw [e1]
  exact ⟨e4 _ [] (Nat.le_refl _) rfl, e2, by omega⟩
/-- what is read is written so -/
theorem forth_key : ∀ (n : Nat) (s : By) (o m : List It), s.length ≤ n → unR n s o = (m, 0) → ∃ l, m = o ++ l ∧ (∀ x ∈ l, u32b x.2.2.1) ∧ (l = [] ∨ o.length + l.length ≤ 48) ∧ ∀ (i : Nat) (out : By), i = o.length → allR i l out = (out ++ s, 0) := by
  intro n
  induction n with
  | zero =>
    intro s o m hn h
    cases h
    obtain rfl : s = [] := List.eq_nil_of_length_eq_zero (by omega)
    exact ⟨[], by simp, by simp, .inl rfl, fun i out _ => by simp [allR]⟩
  | succ n ih =>
    intro s o m hn h
    unfold unR at h
    split at h
    · rename_i hs
      cases h
      subst hs
      exact ⟨[], by simp, by simp, .inl rfl, fun i out _ => by simp [allR]⟩
    · split at h
      · rename_i hb
        obtain ⟨h6, hr, hi, ho⟩ := irdR_drop hb
        split at h
        · cases h
        · rename_i hl
          rw [hr, hi] at h
          obtain ⟨l, e1, e2, e3, e4⟩ := ih (s.drop 6) (o ++ [itm s]) m (by simp; omega) h
          refine ⟨itm s :: l, by rw [e1, List.append_assoc]; rfl, ?_, ?_, fun i out hio => ?_⟩
          · intro x hx
            rcases List.mem_cons.1 hx with rfl | hx
            · exact itm_d s
            · exact e2 x hx
          · right
            rcases e3 with rfl | e3
            · simp; omega
            · simp only [List.length_append, List.length_cons, List.length_nil] at e3 ⊢; omega
          · unfold allR
            rw [ibR_yes ho, if_pos rfl, if_neg (by omega)]
            rw [e4 (i + 1) (out ++ ib (itm s)) (by simp; omega), ib_itm h6, List.append_assoc, List.take_append_drop]
      · rename_i hb
        have := congrArg Prod.snd h
        exact absurd this hb
theorem item_forth {s : By} (h : (un s).2 = 0) : all (un s).1 = (s, 0) ∧ (∀ x ∈ (un s).1, u32b x.2.2.1) ∧ (un s).1.length ≤ 48 := by
  obtain ⟨l, e1, e2, e3, e4⟩ := forth_key s.length s [] (un s).1 (Nat.le_refl _) (by rw [← h]; rfl)
  rw [List.nil_append] at e1
  rw [e1]
  refine ⟨?_, e2, ?_⟩
  · have := e4 0 [] rfl
    rw [List.nil_append] at this
    exact this
  · rcases e3 with rfl | e3
    · simp
    · simpa using e3
theorem un_none {s : By} (h : ¬ (un s).2 = 0) : (un s).1 = [] := by
  have key : ∀ (n : Nat) (s : By) (o : List It), ¬ (unR n s o).2 = 0 → (unR n s o).1 = [] := by
    intro n
    induction n with
    | zero => intro s o h; exact absurd rfl h
    | succ n ih =>
      intro s o h
      unfold unR at h ⊢
      split at h
      · exact absurd rfl h
      · rename_i hs
        rw [if_neg hs]
        split at h
        · rename_i hb
          rw [if_pos hb]
          split at h
          · rename_i hl; rw [if_pos hl]
          · rename_i hl; rw [if_neg hl]; exact ih _ _ h
        · rename_i hb; rw [if_neg hb]
  exact key _ _ _ h
theorem un_len (s : By) : (un s).1.length ≤ 48 := by
  by_cases h : (un s).2 = 0
  · exact (item_forth h).2.2
  · rw [un_none h]; simp
theorem un_d (s : By) : ∀ x ∈ (un s).1, u32b x.2.2.1 := by
  by_cases h : (un s).2 = 0
  · exact (item_forth h).2.1
  · rw [un_none h]; simp
theorem far_good (d k : Int) : Good Try.prog 92 [.int .i64 d, .int .i64 k] (eI (d, k, 4294967295, -1)) := by
  apply good_at ak92 rfl rfl rfl
  conv => whnf
  refine AV.of_eqv ?_
  conv => whnf
  refine And.intro (by with_reducible rfl) ?_
  conv => whnf
  refine And.intro (by with_reducible rfl) ?_
  conv => whnf
  refine And.intro (by with_reducible rfl) ?_
  conv => whnf
  refine And.intro (by with_reducible rfl) ?_
  exact True.intro
theorem same7_good (l m : List It) (hl : l.length ≤ 1000000) (hm : m.length ≤ 1000000) : Good Try.prog 25 [.sl .sh 4 (l.map it), .sl .sh 4 (m.map it)] (.bool (decide (l = m))) := by
  apply good_at ak25 rfl rfl rfl
  conv => whnf
  refine And.intro (fun hc0 => ?_) (fun hc0 => ?_)
  · replace hc0 := of_decide_eq_false (Bool.not_eq_true' _ |>.mp hc0)
    conv => whnf
    refine AV.of_eqv ?_
    conv => whnf
    refine And.intro (by (exact (decide_eq_false (by rintro rfl; omega)).symm)) ?_
    exact True.intro
  · replace hc0 := of_decide_eq_true (Bool.not_eq_false' _ |>.mp hc0)
    conv => whnf
    refine loop_at (α := Nat) [] (fun i => [(13, .int .i64 (i : Int))]) (fun i => []) (fun i => i ≤ l.length ∧ l.take i = m.take i) (fun i => l.length - i) (0) (st_of ?_) ?_ (by rintro i _; rfl) ?_
    · conv => whnf
      refine And.intro (by with_reducible rfl) ?_
      conv => whnf
      refine And.intro (by with_reducible rfl) ?_
      conv => whnf
      refine And.intro (by with_reducible rfl) ?_
      conv => whnf
      refine And.intro (by with_reducible rfl) ?_
      conv => whnf
      refine And.intro (by with_reducible rfl) ?_
      conv => whnf
      refine And.intro (by with_reducible rfl) ?_
      conv => whnf
      refine And.intro (by with_reducible rfl) ?_
      conv => whnf
      refine And.intro (by with_reducible rfl) ?_
      conv => whnf
      refine And.intro (by with_reducible rfl) ?_
      conv => whnf
      refine And.intro (by decide) ?_
      exact True.intro
    · (exact ⟨by omega, rfl⟩)
    · rintro i nextl0 hIl0 ihl0
      try dsimp only at hIl0
      conv => whnf
      refine And.intro (fun hc1 => ?_) (fun hc1 => ?_)
      · replace hc1 := of_decide_eq_true hc1
        conv => whnf
        refine And.intro (by exact rfl) ?_
        conv => whnf
        refine And.intro (by omega) ?_
        refine ex_row (l := l) ?_ fun x hx => ?_
        · (simp only [map_rows, maxLen_eq] at *; omega)
        · simp only [toNat_ofNat] at hx
          conv => whnf
          refine And.intro (by omega) ?_
          refine ex_row (l := m) ?_ fun y hy => ?_
          · (simp only [map_rows, maxLen_eq] at *; omega)
          · simp only [toNat_ofNat] at hy
            conv => whnf
            refine And.intro (fun hc4 => ?_) (fun hc4 => ?_)
            · simp only [Bool.not_eq_true', Bool.not_eq_false', Bool.and_eq_true, Bool.and_eq_false_imp, Bool.or_eq_true, Bool.or_eq_false_iff, Bool.and_true, Bool.true_and, Bool.not_true, Bool.not_false, decide_eq_true_eq, decide_eq_false_iff_not, Bool.decide_and] at hc4
              conv => whnf
              refine AV.of_eqv ?_
              conv => whnf
              refine And.intro (by (exact (decide_eq_false (ne_at hx hy (by rintro rfl; simp_all))).symm)) ?_
              exact True.intro
            · simp only [Bool.not_eq_true', Bool.not_eq_false', Bool.and_eq_true, Bool.and_eq_false_imp, Bool.or_eq_true, Bool.or_eq_false_iff, Bool.and_true, Bool.true_and, Bool.not_true, Bool.not_false, decide_eq_true_eq, decide_eq_false_iff_not, Bool.decide_and] at hc4
              conv => whnf
              refine ihl0 (i + 1) _ ?_ ?_ (st_of ?_)
              · (have := lt_at hx; exact ⟨by omega, eq_next hIl0.2 hx hy (by simp_all [Prod.ext_iff])⟩)
              · (simp only [map_rows, maxLen_eq] at *; omega)
              · conv => whnf
                refine And.intro (by with_reducible rfl) ?_
                conv => whnf
                refine And.intro (by with_reducible rfl) ?_
                conv => whnf
                refine And.intro (by with_reducible rfl) ?_
                conv => whnf
                refine And.intro (by with_reducible rfl) ?_
                conv => whnf
                refine And.intro (by with_reducible rfl) ?_
                conv => whnf
                refine And.intro (by with_reducible rfl) ?_
                conv => whnf
                refine And.intro (by with_reducible rfl) ?_
                conv => whnf
                refine And.intro (by with_reducible rfl) ?_
                conv => whnf
                refine And.intro (by with_reducible rfl) ?_
                conv => whnf
                refine And.intro (by (simp only [wrap_i64, wrap_u64, wrap_u32, wrap_u16, wrap_u8, maxLen_eq, mmI] at *; omega)) ?_
                exact True.intro
      · replace hc1 := of_decide_eq_false hc1
        conv => whnf
        refine AV.of_eqv ?_
        conv => whnf
        refine And.intro (by (exact (decide_eq_true (eq_end hIl0.2 (by simp only [map_rows] at *; omega) (by simp only [map_rows] at *; omega))).symm)) ?_
        exact True.intro
def L3 : List It := [(2, 1, 7, 1), (3, 0, 4294967295, -1), (4, 0, 0, -1)]
def bL3 : By := [33, 0, 0, 0, 7, 1, 48, 255, 255, 255, 255, 255, 64, 0, 0, 0, 0, 255]
abbrev rL3 : List (List AV) := [[.int .i64 2, .int .i64 1, .int .u32 7, .int .i64 1], [.int .i64 3, .int .i64 0, .int .u32 4294967295, .int .i64 (-1)], [.int .i64 4, .int .i64 0, .int .u32 0, .int .i64 (-1)]]
theorem all_L3 : all L3 = (bL3, 0) := by decide
theorem un_L3 : un bL3 = (L3, 0) := by decide
theorem c_all : Good Try.prog 23 [.sl .sh 4 rL3] (.tuple [.str [33, 0, 0, 0, 7, 1, 48, 255, 255, 255, 255, 255, 64, 0, 0, 0, 0, 255], .int .i64 0]) :=
  (all_good L3 (by decide) (by unfold L3 u32b; decide)).eq (by rw [all_L3]; rfl)
theorem c_un : Good Try.prog 24 [.str [33, 0, 0, 0, 7, 1, 48, 255, 255, 255, 255, 255, 64, 0, 0, 0, 0, 255]] (.tuple [.sl .sh 4 rL3, .int .i64 0]) :=
  (unall_good bL3).eq (by rw [un_L3]; rfl)
theorem c_bad : Good Try.prog 93 [.agg [.int .i64 2, .int .i64 0, .int .u32 7, .int .i64 2]] (.tuple [.str [], .int .i64 1]) :=
  (ibytes_good (2, 0, 7, 2) (by unfold u32b; decide)).eq (by rw [ibR_no (by decide)])
theorem c_r1 : Good Try.prog 94 [.str [115, 104, 111, 114, 116]] (.tuple [.agg [.int .i64 0, .int .i64 0, .int .u32 0, .int .i64 0], .str [], .int .i64 2]) :=
  (iread_good _).eq (by rw [irdR_short (by decide)]; rfl)
theorem c_r2 : Good Try.prog 94 [.str [35, 0, 0, 0, 7, 1]] (.tuple [.agg [.int .i64 0, .int .i64 0, .int .u32 0, .int .i64 0], .str [], .int .i64 3]) :=
  (iread_good _).eq (by rw [irdR_bad (by decide) (by decide)]; rfl)
theorem c_ok : Good Try.prog 95 [.agg [.int .i64 2, .int .i64 1, .int .u32 7, .int .i64 1]] (.bool true) :=
  (iright_good (2, 1, 7, 1)).eq (by rw [decide_eq_true (by decide)])
theorem c_no : Good Try.prog 95 [.agg [.int .i64 2, .int .i64 0, .int .u32 7, .int .i64 (-1)]] (.bool false) :=
  (iright_good (2, 0, 7, -1)).eq (by rw [decide_eq_false (by decide)])
theorem flat_dec {xs : List (List AV)} (h : (xs.all fun r => r.all AV.flat) = true) : flatRows xs := by
  intro x hx c hc
  exact List.all_eq_true.1 (List.all_eq_true.1 h x hx) c hc
theorem awake7_good : Good Try.prog 22 [] (.bool true) := by
  apply good_at ak22 rfl rfl rfl
  conv => whnf
  refine ⟨_, far_good _ _, ?_⟩
  conv => whnf
  refine And.intro (by (exact flat_dec rfl)) ?_
  conv => whnf
  refine And.intro (by decide) ?_
  refine And.intro (by decide) ?_
  refine And.intro (by decide) ?_
  conv => whnf
  with_reducible refine ⟨_, rfl, ?_⟩
  conv => whnf
  refine And.intro (by with_reducible rfl) ?_
  refine And.intro (by with_reducible rfl) ?_
  refine And.intro (by decide) ?_
  refine And.intro (by (exact flat_dec rfl)) ?_
  conv => whnf
  refine ⟨_, c_all, ?_⟩
  conv => whnf
  refine ⟨_, c_un, ?_⟩
  conv => whnf
  refine ⟨_, c_bad, ?_⟩
  conv => whnf
  refine ⟨_, c_r1, ?_⟩
  conv => whnf
  refine ⟨_, c_r2, ?_⟩
  conv => whnf
  refine br_r rfl rfl ?_
  conv => whnf
  refine And.intro (by decide) ?_
  conv => whnf
  refine br_l rfl rfl ?_
  conv => whnf
  refine br_l rfl rfl ?_
  conv => whnf
  refine And.intro (by decide) ?_
  refine And.intro (by decide) ?_
  refine And.intro (by decide) ?_
  conv => whnf
  refine br_l rfl rfl ?_
  conv => whnf
  refine br_l rfl rfl ?_
  conv => whnf
  refine br_l rfl rfl ?_
  conv => whnf
  refine br_l rfl rfl ?_
  conv => whnf
  refine And.intro (by decide) ?_
  refine And.intro (by decide) ?_
  refine And.intro (by decide) ?_
  conv => whnf
  refine br_l rfl rfl ?_
  conv => whnf
  refine br_l rfl rfl ?_
  conv => whnf
  refine br_l rfl rfl ?_
  conv => whnf
  refine br_l rfl rfl ?_
  conv => whnf
  refine br_l rfl rfl ?_
  conv => whnf
  refine br_l rfl rfl ?_
  conv => whnf
  refine br_l rfl rfl ?_
  conv => whnf
  refine And.intro (by decide) ?_
  with_reducible refine ⟨_, rfl, ?_⟩
  conv => whnf
  refine br_l rfl rfl ?_
  conv => whnf
  refine br_l rfl rfl ?_
  conv => whnf
  refine br_l rfl rfl ?_
  conv => whnf
  refine And.intro (by decide) ?_
  with_reducible refine ⟨_, rfl, ?_⟩
  conv => whnf
  refine br_l rfl rfl ?_
  conv => whnf
  refine br_l rfl rfl ?_
  conv => whnf
  refine br_l rfl rfl ?_
  conv => whnf
  refine br_l rfl rfl ?_
  conv => whnf
  refine br_l rfl rfl ?_
  conv => whnf
  refine And.intro (by decide) ?_
  with_reducible refine ⟨_, rfl, ?_⟩
  conv => whnf
  refine br_l rfl rfl ?_
  conv => whnf
  refine br_l rfl rfl ?_
  conv => whnf
  refine br_l rfl rfl ?_
  conv => whnf
  refine And.intro (by decide) ?_
  with_reducible refine ⟨_, rfl, ?_⟩
  conv => whnf
  refine br_l rfl rfl ?_
  conv => whnf
  refine br_l rfl rfl ?_
  conv => whnf
  refine br_l rfl rfl ?_
  conv => whnf
  refine br_l rfl rfl ?_
  conv => whnf
  refine br_l rfl rfl ?_
  conv => whnf
  refine And.intro (by decide) ?_
  with_reducible refine ⟨_, rfl, ?_⟩
  conv => whnf
  refine br_l rfl rfl ?_
  conv => whnf
  refine br_l rfl rfl ?_
  conv => whnf
  refine br_l rfl rfl ?_
  conv => whnf
  refine And.intro (by decide) ?_
  with_reducible refine ⟨_, rfl, ?_⟩
  conv => whnf
  refine br_l rfl rfl ?_
  conv => whnf
  refine br_l rfl rfl ?_
  conv => whnf
  refine br_l rfl rfl ?_
  conv => whnf
  refine br_l rfl rfl ?_
  conv => whnf
  refine br_l rfl rfl ?_
  conv => whnf
  refine br_l rfl rfl ?_
  conv => whnf
  refine br_l rfl rfl ?_
  conv => whnf
  refine br_l rfl rfl ?_
  conv => whnf
  refine br_l rfl rfl ?_
  conv => whnf
  refine br_l rfl rfl ?_
  conv => whnf
  refine br_l rfl rfl ?_
  conv => whnf
  refine br_l rfl rfl ?_
  conv => whnf
  refine br_l rfl rfl ?_
  conv => whnf
  refine br_l rfl rfl ?_
  conv => whnf
  refine And.intro (by decide) ?_
  with_reducible refine ⟨_, rfl, ?_⟩
  conv => whnf
  refine br_l rfl rfl ?_
  conv => whnf
  refine br_l rfl rfl ?_
  conv => whnf
  refine ⟨_, c_ok, ?_⟩
  conv => whnf
  refine br_l rfl rfl ?_
  conv => whnf
  refine br_l rfl rfl ?_
  conv => whnf
  refine br_l rfl rfl ?_
  conv => whnf
  refine ⟨_, c_no, ?_⟩
  conv => whnf
  refine br_l rfl rfl ?_
  conv => whnf
  refine br_l rfl rfl ?_
  conv => whnf
  refine AV.of_eqv ?_
  conv => whnf
  refine And.intro (by decide) ?_
  exact True.intro
theorem itemBack_good (l : List It) (s : By) (hd : ∀ x ∈ l, u32b x.2.2.1) : Good Try.prog 4 [.sl .sh 4 (l.map it), .str s] (.bool true) := by
  have hul := un_len s
  have hud := un_d s
  have hua := un_len (all l).1
  have k1 : (all l).2 = 0 → (un (all l).1).2 = 0 := fun h => by rw [(item_back hd h).1]
  have k2 : (all l).2 = 0 → (un (all l).1).1 = l := fun h => by rw [(item_back hd h).1]
  have k3 : (all l).2 = 0 → ((all l).1.length : Int) = IntKind.i64.wrap (6 * ((l.map it).length : Int)) := fun h => by have := item_back hd h; rw [map_rows, wrap_i64]; omega
  have k4 : (un s).2 = 0 → (all (un s).1).2 = 0 := fun h => by rw [(item_forth h).1]
  have k5 : (un s).2 = 0 → (all (un s).1).1 = s := fun h => by rw [(item_forth h).1]
  have k6 : ¬ (un s).2 = 0 → (((un s).1.map it).length : Int) = 0 := fun h => by rw [un_none h]; rfl
  apply good_at ak4 rfl rfl rfl
  conv => whnf
  refine And.intro (fun hc0 => ?_) (fun hc0 => ?_)
  · replace hc0 := of_decide_eq_false hc0
    conv => whnf
    refine br_l rfl rfl ?_
    conv => whnf
    refine br_l rfl rfl ?_
    conv => whnf
    refine br_r rfl rfl ?_
    conv => whnf
    refine And.intro (fun hc1 => ?_) (fun hc1 => ?_)
    · replace hc1 := of_decide_eq_true hc1
      conv => whnf
      refine ⟨_, awake7_good, ?_⟩
      conv => whnf
      refine AV.of_eqv ?_
      conv => whnf
      refine And.intro (by with_reducible rfl) ?_
      exact True.intro
    · replace hc1 := of_decide_eq_false hc1
      conv => whnf
      refine ⟨_, (all_good l) ?_ ?_, ?_⟩
      · (simp only [map_rows] at *; omega)
      · assumption
      · conv => whnf
        refine And.intro (fun hc2 => ?_) (fun hc2 => ?_)
        · replace hc2 := of_decide_eq_true hc2
          conv => whnf
          refine ⟨_, unall_good _, ?_⟩
          conv => whnf
          refine And.intro (fun hc3 => ?_) (fun hc3 => ?_)
          · replace hc3 := of_decide_eq_true (Bool.not_eq_false' _ |>.mp hc3)
            conv => whnf
            refine br_l rfl rfl ?_
            conv => whnf
            refine br_l rfl rfl ?_
            conv => whnf
            refine ⟨_, (same7_good (un (all l).1).1 l) ?_ ?_, ?_⟩
            · omega
            · (simp only [map_rows] at *; omega)
            · conv => whnf
              refine br_l rfl rfl ?_
              conv => whnf
              refine br_r rfl rfl ?_
              conv => whnf
              refine And.intro (fun hc4 => ?_) (fun hc4 => ?_)
              · replace hc4 := of_decide_eq_true (Bool.not_eq_false' _ |>.mp hc4)
                conv => whnf
                refine br_l rfl rfl ?_
                conv => whnf
                refine br_l rfl rfl ?_
                conv => whnf
                refine br_l rfl rfl ?_
                conv => whnf
                refine br_l rfl rfl ?_
                conv => whnf
                refine br_l rfl rfl ?_
                conv => whnf
                refine br_r rfl rfl ?_
                conv => whnf
                refine And.intro (fun hc5 => ?_) (fun hc5 => ?_)
                · replace hc5 := of_decide_eq_false (Bool.not_eq_true' _ |>.mp hc5)
                  (exfalso; omega)
                · replace hc5 := of_decide_eq_true (Bool.not_eq_false' _ |>.mp hc5)
                  conv => whnf
                  refine ⟨_, unall_good _, ?_⟩
                  conv => whnf
                  refine And.intro (fun hc6 => ?_) (fun hc6 => ?_)
                  · replace hc6 := of_decide_eq_false (Bool.not_eq_true' _ |>.mp hc6)
                    conv => whnf
                    refine And.intro (fun hc7 => ?_) (fun hc7 => ?_)
                    · replace hc7 := of_decide_eq_true hc7
                      conv => whnf
                      refine ⟨_, awake7_good, ?_⟩
                      conv => whnf
                      refine br_l rfl rfl ?_
                      conv => whnf
                      refine AV.of_eqv ?_
                      conv => whnf
                      refine And.intro (by with_reducible rfl) ?_
                      exact True.intro
                    · replace hc7 := of_decide_eq_false hc7
                      (exfalso; omega)
                  · replace hc6 := of_decide_eq_true (Bool.not_eq_false' _ |>.mp hc6)
                    conv => whnf
                    refine ⟨_, (all_good (un s).1) ?_ ?_, ?_⟩
                    · omega
                    · assumption
                    · conv => whnf
                      refine And.intro (fun hc8 => ?_) (fun hc8 => ?_)
                      · replace hc8 := of_decide_eq_true hc8
                        conv => whnf
                        refine br_l rfl rfl ?_
                        conv => whnf
                        refine br_l rfl rfl ?_
                        conv => whnf
                        refine br_l rfl rfl ?_
                        conv => whnf
                        refine And.intro (fun hc9 => ?_) (fun hc9 => ?_)
                        · replace hc9 := of_decide_eq_true hc9
                          conv => whnf
                          refine ⟨_, awake7_good, ?_⟩
                          conv => whnf
                          refine br_l rfl rfl ?_
                          conv => whnf
                          refine AV.of_eqv ?_
                          conv => whnf
                          refine And.intro (by with_reducible rfl) ?_
                          exact True.intro
                        · replace hc9 := of_decide_eq_false hc9
                          (exact absurd (k5 (by assumption)) (by assumption))
                      · replace hc8 := of_decide_eq_false hc8
                        (exfalso; omega)
              · replace hc4 := of_decide_eq_false (Bool.not_eq_true' _ |>.mp hc4)
                (exact absurd (k2 (by assumption)) (by assumption))
          · replace hc3 := of_decide_eq_false (Bool.not_eq_true' _ |>.mp hc3)
            (exfalso; omega)
        · replace hc2 := of_decide_eq_false hc2
          conv => whnf
          refine ⟨_, unall_good _, ?_⟩
          conv => whnf
          refine And.intro (fun hc10 => ?_) (fun hc10 => ?_)
          · replace hc10 := of_decide_eq_false (Bool.not_eq_true' _ |>.mp hc10)
            conv => whnf
            refine And.intro (fun hc11 => ?_) (fun hc11 => ?_)
            · replace hc11 := of_decide_eq_true hc11
              conv => whnf
              refine ⟨_, awake7_good, ?_⟩
              conv => whnf
              refine br_l rfl rfl ?_
              conv => whnf
              refine AV.of_eqv ?_
              conv => whnf
              refine And.intro (by with_reducible rfl) ?_
              exact True.intro
            · replace hc11 := of_decide_eq_false hc11
              (exfalso; omega)
          · replace hc10 := of_decide_eq_true (Bool.not_eq_false' _ |>.mp hc10)
            conv => whnf
            refine ⟨_, (all_good (un s).1) ?_ ?_, ?_⟩
            · omega
            · assumption
            · conv => whnf
              refine And.intro (fun hc12 => ?_) (fun hc12 => ?_)
              · replace hc12 := of_decide_eq_true hc12
                conv => whnf
                refine br_l rfl rfl ?_
                conv => whnf
                refine br_l rfl rfl ?_
                conv => whnf
                refine br_l rfl rfl ?_
                conv => whnf
                refine And.intro (fun hc13 => ?_) (fun hc13 => ?_)
                · replace hc13 := of_decide_eq_true hc13
                  conv => whnf
                  refine ⟨_, awake7_good, ?_⟩
                  conv => whnf
                  refine br_l rfl rfl ?_
                  conv => whnf
                  refine AV.of_eqv ?_
                  conv => whnf
                  refine And.intro (by with_reducible rfl) ?_
                  exact True.intro
                · replace hc13 := of_decide_eq_false hc13
                  (exact absurd (k5 (by assumption)) (by assumption))
              · replace hc12 := of_decide_eq_false hc12
                (exfalso; omega)
  · replace hc0 := of_decide_eq_true hc0
    conv => whnf
    refine br_r rfl rfl ?_
    conv => whnf
    refine br_r rfl rfl ?_
    conv => whnf
    refine br_l rfl rfl ?_
    conv => whnf
    refine br_l rfl rfl ?_
    conv => whnf
    refine ⟨_, awake7_good, ?_⟩
    conv => whnf
    refine AV.of_eqv ?_
    conv => whnf
    refine And.intro (by with_reducible rfl) ?_
    exact True.intro
end Go.Proofs.Ytkcdeefnkbbacaa

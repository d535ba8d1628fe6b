/- The law RingFirst: its contract. -/
import Derived.Test.YtmchbkmenokkdaaS12
set_option maxRecDepth 100000
set_option linter.unusedSimpArgs false
set_option linter.unusedVariables false
namespace Go.Proofs.Ytmchbkmenokkdaa
open Go.RowKit
set_option maxHeartbeats 4000000
def br (b : Bool) : List AV := [.bool b]
def cR (l : Int) : Int := IntKind.i64.wrap (1 + IntKind.i64.wrap ((IntKind.u64.wrap l).tmod 20))
theorem cR_b (n : Int) : 1 ≤ cR n ∧ cR n ≤ 20 := by
  have h0 : 0 ≤ IntKind.u64.wrap n := by rw [wrap_u64]; omega
  unfold cR
  rw [Int.tmod_eq_emod_of_nonneg h0]
  have h1 := Int.emod_nonneg (IntKind.u64.wrap n) (show (20 : Int) ≠ 0 by omega)
  have h2 := Int.emod_lt_of_pos (IntKind.u64.wrap n) (show (0 : Int) < 20 by omega)
  rw [wrap_i64, wrap_i64]
  omega
theorem ex_byte {k : Nat} {K : List UInt8 → Prop} (h : K [UInt8.ofNat k]) : ∃ s : List UInt8, [[AV.int .u8 (IntKind.u8.wrap (k : Int))]] = bytesAV s ∧ s.length ≤ maxLen ∧ K s := by
  refine ⟨[UInt8.ofNat k], ?_, by simp [maxLen], h⟩
  rw [wrap_u8]
  simp [bytesAV]
theorem new1 (R : Int) (h : 1 ≤ R ∧ R ≤ 20) : Good Try.prog 16 [.int .i64 R] (.tuple [eQ R [], .int .i64 0]) :=
  (new_good R).eq (by rw [if_pos (by omega), if_pos (by omega)])
def qs (b a : Nat) : List By := (List.range' b (a - b)).map fun k => [UInt8.ofNat k]
theorem qs_len (b a : Nat) : (qs b a).length = a - b := by simp [qs]
theorem qs_put {b a : Nat} (h : b ≤ a) : qs b a ++ [[UInt8.ofNat a]] = qs b (a + 1) := by
  unfold qs
  have e : b + 1 * (a - b) = a := by omega
  rw [show a + 1 - b = (a - b) + 1 by omega, List.range'_concat, List.map_append, e]
  rfl
theorem qs_drop (b a : Nat) : (qs b a).drop 1 = qs (b + 1) a := by
  unfold qs
  rcases Nat.lt_or_ge b a with h | h
  · rw [show a - b = (a - (b + 1)) + 1 by omega, List.range'_succ]
    simp
  · rw [show a - b = 0 by omega, show a - (b + 1) = 0 by omega]; rfl
theorem qs_head {b a : Nat} (h : b < a) : (qs b a).headD [] = [UInt8.ofNat b] := by
  unfold qs
  rw [show a - b = (a - (b + 1)) + 1 by omega, List.range'_succ]
  rfl
theorem put1 (R : Int) (b a : Nat) (h : b ≤ a) (hn : a - b ≤ 300) (hr : ((a - b : Nat) : Int) < R) : Good Try.prog 17 [eQ R (qs b a), .str [UInt8.ofNat a]] (.tuple [eQ R (qs b (a + 1)), .int .i64 0]) :=
  (put_good R (qs b a) _ (by rw [qs_len]; omega)).eq (by rw [if_neg (by rw [qs_len]; omega), if_neg (by rw [qs_len]; omega), qs_put h])
theorem put2 (R : Int) (b a : Nat) (hn : a - b ≤ 300) (hr : ¬ ((a - b : Nat) : Int) < R) : Good Try.prog 17 [eQ R (qs b a), .str [UInt8.ofNat a]] (.tuple [eQ R (qs b a), .int .i64 8]) :=
  (put_good R (qs b a) _ (by rw [qs_len]; omega)).eq (by rw [if_pos (by rw [qs_len]; omega), if_pos (by rw [qs_len]; omega)])
theorem take1 (R : Int) (b a : Nat) (hn : a - b ≤ 300) (h : b < a) : Good Try.prog 18 [eQ R (qs b a)] (.tuple [eQ R (qs (b + 1) a), .str [UInt8.ofNat b], .int .i64 0]) :=
  (take_good R (qs b a) (by rw [qs_len]; omega)).eq (by rw [if_neg (by rw [qs_len]; omega), qs_drop, qs_head h])
theorem take2 (R : Int) (b a : Nat) (h : ¬ b < a) : Good Try.prog 18 [eQ R (qs b a)] (.tuple [eQ R (qs b a), .str [], .int .i64 9]) :=
  (take_good R (qs b a) (by rw [qs_len]; omega)).eq (by
    have e : qs b a = [] := List.eq_nil_of_length_eq_zero (by rw [qs_len]; omega)
    rw [if_pos (by rw [qs_len]; omega), e]; rfl)
theorem ringFirst_good (room : Int) (l : List Bool) : Good Try.prog 3 [.int .i64 room, .sl .sh 1 (l.map br)] (.bool true) := by
  have hR := cR_b room
  have hW : IntKind.i64.wrap (1 + IntKind.i64.wrap ((IntKind.u64.wrap room).tmod 20)) = cR room := rfl
  apply good_at ak3 rfl rfl rfl
  conv => whnf
  refine And.intro (fun hc0 => ?_) (fun hc0 => ?_)
  · replace hc0 := of_decide_eq_true hc0
    conv => whnf
    refine ⟨_, awake12_good, ?_⟩
    conv => whnf
    refine AV.of_eqv ?_
    conv => whnf
    refine And.intro (by with_reducible rfl) ?_
    exact True.intro
  · replace hc0 := of_decide_eq_false hc0
    conv => whnf
    refine And.intro (by decide) ?_
    conv => whnf
    refine ⟨_, (new1 (cR room)) ?_, ?_⟩
    · assumption
    · conv => whnf
      refine br_r rfl rfl ?_
      conv => whnf
      refine loop_at (α := Nat × Nat × Nat) [] (fun ⟨i, b, a⟩ => [(34, .int .i64 (i : Int)), (7, .int .i64 (a : Int)), (8, .int .i64 (b : Int))]) (fun ⟨i, b, a⟩ => [(0, some ⟨true, 2, [[.int .i64 (cR room), .sl .sh 1 ((qs b a).map sr)]]⟩)]) (fun ⟨i, b, a⟩ => i ≤ l.length ∧ b ≤ a ∧ a - b ≤ 20 ∧ a ≤ i) (fun ⟨i, b, a⟩ => l.length - i) ((0, 0, 0)) (st_of ?_) ?_ (by rintro ⟨i, b, a⟩ _; rfl) ?_
      · conv => whnf
        refine And.intro (by with_reducible rfl) ?_
        conv => whnf
        refine And.intro (by with_reducible rfl) ?_
        conv => whnf
        refine And.intro (by with_reducible rfl) ?_
        refine And.intro (by with_reducible rfl) ?_
        conv => whnf
        refine And.intro (by with_reducible rfl) ?_
        conv => whnf
        refine And.intro (by decide) ?_
        conv => whnf
        refine And.intro (by decide) ?_
        conv => whnf
        refine And.intro (by with_reducible rfl) ?_
        conv => whnf
        refine And.intro (by with_reducible rfl) ?_
        conv => whnf
        refine And.intro (by with_reducible rfl) ?_
        conv => whnf
        refine And.intro (by with_reducible rfl) ?_
        conv => whnf
        refine And.intro (by with_reducible rfl) ?_
        conv => whnf
        refine And.intro (by with_reducible rfl) ?_
        conv => whnf
        refine And.intro (by with_reducible rfl) ?_
        conv => whnf
        refine And.intro (by with_reducible rfl) ?_
        conv => whnf
        refine And.intro (by with_reducible rfl) ?_
        conv => whnf
        refine And.intro (by with_reducible rfl) ?_
        conv => whnf
        refine And.intro (by with_reducible rfl) ?_
        conv => whnf
        refine And.intro (by with_reducible rfl) ?_
        conv => whnf
        refine And.intro (by with_reducible rfl) ?_
        conv => whnf
        refine And.intro (by with_reducible rfl) ?_
        conv => whnf
        refine And.intro (by with_reducible rfl) ?_
        conv => whnf
        refine And.intro (by with_reducible rfl) ?_
        conv => whnf
        refine And.intro (by with_reducible rfl) ?_
        conv => whnf
        refine And.intro (by with_reducible rfl) ?_
        conv => whnf
        refine And.intro (by with_reducible rfl) ?_
        conv => whnf
        refine And.intro (by with_reducible rfl) ?_
        conv => whnf
        refine And.intro (by with_reducible rfl) ?_
        conv => whnf
        refine And.intro (by with_reducible rfl) ?_
        conv => whnf
        refine And.intro (by decide) ?_
        conv => whnf
        refine And.intro (by with_reducible rfl) ?_
        conv => whnf
        refine And.intro (by exact rfl) ?_
        exact True.intro
      · dsimp only
        omega
      · rintro ⟨i, b, a⟩ nextl0 hIl0 ihl0
        try dsimp only at hIl0
        rcases (show ((((a - b : Nat) : Int) < cR room ∧ b < a) ∨ (((a - b : Nat) : Int) < cR room ∧ ¬ b < a) ∨ (¬ ((a - b : Nat) : Int) < cR room)) by omega) with hc | hc | hc
        · conv => whnf
          refine And.intro (fun hc1 => ?_) (fun hc1 => ?_)
          · replace hc1 := of_decide_eq_true hc1
            conv => whnf
            refine And.intro (by omega) ?_
            refine ex_row (l := l) ?_ fun x hx => ?_
            · (simp only [map_rows, qs_len, wrap_i64] at *; omega)
            · simp only [toNat_ofNat] at hx
              conv => whnf
              refine And.intro (fun hc3 => ?_) (fun hc3 => ?_)
              · conv => whnf
                refine And.intro (by with_reducible rfl) ?_
                refine ex_byte ?_
                conv => whnf
                refine ⟨_, (put1 (cR room) b a) ?_ ?_ ?_, ?_⟩
                · omega
                · omega
                · omega
                · conv => whnf
                  refine And.intro (fun hc5 => ?_) (fun hc5 => ?_)
                  · replace hc5 := of_decide_eq_false (Bool.not_eq_true' _ |>.mp hc5)
                    (exfalso; simp [hW, wrap_i64] at *; omega)
                  · replace hc5 := of_decide_eq_true (Bool.not_eq_false' _ |>.mp hc5)
                    conv => whnf
                    refine br_l rfl rfl ?_
                    conv => whnf
                    refine ihl0 ((i + 1, b, a + 1)) _ ?_ ?_ (st_of ?_)
                    · dsimp only
                      (simp only [map_rows, qs_len, wrap_i64] at *; omega)
                    · dsimp only
                      (simp only [map_rows, qs_len, wrap_i64] at *; omega)
                    · conv => whnf
                      refine And.intro (by with_reducible rfl) ?_
                      conv => whnf
                      refine And.intro (by with_reducible rfl) ?_
                      conv => whnf
                      refine And.intro (by with_reducible rfl) ?_
                      refine And.intro (by with_reducible rfl) ?_
                      conv => whnf
                      refine And.intro (by with_reducible rfl) ?_
                      conv => whnf
                      refine And.intro (by (simp only [map_rows, qs_len, wrap_i64] at *; omega)) ?_
                      conv => whnf
                      refine And.intro (by with_reducible rfl) ?_
                      conv => whnf
                      refine And.intro (by with_reducible rfl) ?_
                      conv => whnf
                      refine And.intro (by with_reducible rfl) ?_
                      conv => whnf
                      refine And.intro (by with_reducible rfl) ?_
                      conv => whnf
                      refine And.intro (by with_reducible rfl) ?_
                      conv => whnf
                      refine And.intro (by with_reducible rfl) ?_
                      conv => whnf
                      refine And.intro (by with_reducible rfl) ?_
                      conv => whnf
                      refine And.intro (by with_reducible rfl) ?_
                      conv => whnf
                      refine And.intro (by with_reducible rfl) ?_
                      conv => whnf
                      refine And.intro (by with_reducible rfl) ?_
                      conv => whnf
                      refine And.intro (by with_reducible rfl) ?_
                      conv => whnf
                      refine And.intro (by with_reducible rfl) ?_
                      conv => whnf
                      refine And.intro (by with_reducible rfl) ?_
                      conv => whnf
                      refine And.intro (by with_reducible rfl) ?_
                      conv => whnf
                      refine And.intro (by with_reducible rfl) ?_
                      conv => whnf
                      refine And.intro (by with_reducible rfl) ?_
                      conv => whnf
                      refine And.intro (by with_reducible rfl) ?_
                      conv => whnf
                      refine And.intro (by with_reducible rfl) ?_
                      conv => whnf
                      refine And.intro (by with_reducible rfl) ?_
                      conv => whnf
                      refine And.intro (by with_reducible rfl) ?_
                      conv => whnf
                      refine And.intro (by with_reducible rfl) ?_
                      conv => whnf
                      refine And.intro (by with_reducible rfl) ?_
                      conv => whnf
                      refine And.intro (by with_reducible rfl) ?_
                      conv => whnf
                      refine And.intro (by (simp only [map_rows, qs_len, wrap_i64] at *; omega)) ?_
                      conv => whnf
                      refine And.intro (by with_reducible rfl) ?_
                      conv => whnf
                      refine And.intro (by with_reducible rfl) ?_
                      exact True.intro
              · conv => whnf
                refine ⟨_, (take1 (cR room) b a) ?_ ?_, ?_⟩
                · omega
                · omega
                · conv => whnf
                  refine And.intro (fun hc6 => ?_) (fun hc6 => ?_)
                  · replace hc6 := of_decide_eq_true (Bool.not_eq_false' _ |>.mp hc6)
                    conv => whnf
                    refine br_l rfl rfl ?_
                    conv => whnf
                    refine br_l rfl rfl ?_
                    conv => whnf
                    refine br_l rfl rfl ?_
                    conv => whnf
                    refine br_l rfl rfl ?_
                    conv => whnf
                    refine br_l rfl rfl ?_
                    conv => whnf
                    refine br_l rfl rfl ?_
                    conv => whnf
                    refine br_l rfl rfl ?_
                    conv => whnf
                    refine And.intro (by with_reducible rfl) ?_
                    refine ex_byte ?_
                    conv => whnf
                    refine br_l rfl rfl ?_
                    conv => whnf
                    refine br_l rfl rfl ?_
                    conv => whnf
                    refine br_l rfl rfl ?_
                    conv => whnf
                    refine br_r rfl rfl ?_
                    conv => whnf
                    refine And.intro (fun hc8 => ?_) (fun hc8 => ?_)
                    · replace hc8 := of_decide_eq_false (Bool.not_eq_true' _ |>.mp hc8)
                      contradiction
                    · replace hc8 := of_decide_eq_true (Bool.not_eq_false' _ |>.mp hc8)
                      conv => whnf
                      refine br_l rfl rfl ?_
                      conv => whnf
                      refine ihl0 ((i + 1, b + 1, a)) _ ?_ ?_ (st_of ?_)
                      · dsimp only
                        (simp only [map_rows, qs_len, wrap_i64] at *; omega)
                      · dsimp only
                        (simp only [map_rows, qs_len, wrap_i64] at *; omega)
                      · conv => whnf
                        refine And.intro (by with_reducible rfl) ?_
                        conv => whnf
                        refine And.intro (by with_reducible rfl) ?_
                        conv => whnf
                        refine And.intro (by with_reducible rfl) ?_
                        refine And.intro (by with_reducible rfl) ?_
                        conv => whnf
                        refine And.intro (by with_reducible rfl) ?_
                        conv => whnf
                        refine And.intro (by with_reducible rfl) ?_
                        conv => whnf
                        refine And.intro (by (simp only [map_rows, qs_len, wrap_i64] at *; omega)) ?_
                        conv => whnf
                        refine And.intro (by with_reducible rfl) ?_
                        conv => whnf
                        refine And.intro (by with_reducible rfl) ?_
                        conv => whnf
                        refine And.intro (by with_reducible rfl) ?_
                        conv => whnf
                        refine And.intro (by with_reducible rfl) ?_
                        conv => whnf
                        refine And.intro (by with_reducible rfl) ?_
                        conv => whnf
                        refine And.intro (by with_reducible rfl) ?_
                        conv => whnf
                        refine And.intro (by with_reducible rfl) ?_
                        conv => whnf
                        refine And.intro (by with_reducible rfl) ?_
                        conv => whnf
                        refine And.intro (by with_reducible rfl) ?_
                        conv => whnf
                        refine And.intro (by with_reducible rfl) ?_
                        conv => whnf
                        refine And.intro (by with_reducible rfl) ?_
                        conv => whnf
                        refine And.intro (by with_reducible rfl) ?_
                        conv => whnf
                        refine And.intro (by with_reducible rfl) ?_
                        conv => whnf
                        refine And.intro (by with_reducible rfl) ?_
                        conv => whnf
                        refine And.intro (by with_reducible rfl) ?_
                        conv => whnf
                        refine And.intro (by with_reducible rfl) ?_
                        conv => whnf
                        refine And.intro (by with_reducible rfl) ?_
                        conv => whnf
                        refine And.intro (by with_reducible rfl) ?_
                        conv => whnf
                        refine And.intro (by with_reducible rfl) ?_
                        conv => whnf
                        refine And.intro (by with_reducible rfl) ?_
                        conv => whnf
                        refine And.intro (by with_reducible rfl) ?_
                        conv => whnf
                        refine And.intro (by with_reducible rfl) ?_
                        conv => whnf
                        refine And.intro (by (simp only [map_rows, qs_len, wrap_i64] at *; omega)) ?_
                        conv => whnf
                        refine And.intro (by with_reducible rfl) ?_
                        conv => whnf
                        refine And.intro (by with_reducible rfl) ?_
                        exact True.intro
                  · replace hc6 := of_decide_eq_false (Bool.not_eq_true' _ |>.mp hc6)
                    (exfalso; simp [hW, wrap_i64] at *; omega)
          · replace hc1 := of_decide_eq_false hc1
            conv => whnf
            refine ⟨_, long_good _ _, ?_⟩
            conv => whnf
            refine And.intro (fun hc9 => ?_) (fun hc9 => ?_)
            · replace hc9 := of_decide_eq_true hc9
              conv => whnf
              refine ⟨_, awake12_good, ?_⟩
              conv => whnf
              refine br_l rfl rfl ?_
              conv => whnf
              refine AV.of_eqv ?_
              conv => whnf
              refine And.intro (by with_reducible rfl) ?_
              exact True.intro
            · replace hc9 := of_decide_eq_false hc9
              (exfalso; simp only [hW, decide_eq_decide, decide_eq_false_iff_not, map_rows, qs_len] at *; simp only [wrap_i64] at *; omega)
        · conv => whnf
          refine And.intro (fun hc10 => ?_) (fun hc10 => ?_)
          · replace hc10 := of_decide_eq_true hc10
            conv => whnf
            refine And.intro (by omega) ?_
            refine ex_row (l := l) ?_ fun x hx => ?_
            · (simp only [map_rows, qs_len, wrap_i64] at *; omega)
            · simp only [toNat_ofNat] at hx
              conv => whnf
              refine And.intro (fun hc12 => ?_) (fun hc12 => ?_)
              · conv => whnf
                refine And.intro (by with_reducible rfl) ?_
                refine ex_byte ?_
                conv => whnf
                refine ⟨_, (put1 (cR room) b a) ?_ ?_ ?_, ?_⟩
                · omega
                · omega
                · omega
                · conv => whnf
                  refine And.intro (fun hc14 => ?_) (fun hc14 => ?_)
                  · replace hc14 := of_decide_eq_false (Bool.not_eq_true' _ |>.mp hc14)
                    (exfalso; simp [hW, wrap_i64] at *; omega)
                  · replace hc14 := of_decide_eq_true (Bool.not_eq_false' _ |>.mp hc14)
                    conv => whnf
                    refine br_l rfl rfl ?_
                    conv => whnf
                    refine ihl0 ((i + 1, b, a + 1)) _ ?_ ?_ (st_of ?_)
                    · dsimp only
                      (simp only [map_rows, qs_len, wrap_i64] at *; omega)
                    · dsimp only
                      (simp only [map_rows, qs_len, wrap_i64] at *; omega)
                    · conv => whnf
                      refine And.intro (by with_reducible rfl) ?_
                      conv => whnf
                      refine And.intro (by with_reducible rfl) ?_
                      conv => whnf
                      refine And.intro (by with_reducible rfl) ?_
                      refine And.intro (by with_reducible rfl) ?_
                      conv => whnf
                      refine And.intro (by with_reducible rfl) ?_
                      conv => whnf
                      refine And.intro (by (simp only [map_rows, qs_len, wrap_i64] at *; omega)) ?_
                      conv => whnf
                      refine And.intro (by with_reducible rfl) ?_
                      conv => whnf
                      refine And.intro (by with_reducible rfl) ?_
                      conv => whnf
                      refine And.intro (by with_reducible rfl) ?_
                      conv => whnf
                      refine And.intro (by with_reducible rfl) ?_
                      conv => whnf
                      refine And.intro (by with_reducible rfl) ?_
                      conv => whnf
                      refine And.intro (by with_reducible rfl) ?_
                      conv => whnf
                      refine And.intro (by with_reducible rfl) ?_
                      conv => whnf
                      refine And.intro (by with_reducible rfl) ?_
                      conv => whnf
                      refine And.intro (by with_reducible rfl) ?_
                      conv => whnf
                      refine And.intro (by with_reducible rfl) ?_
                      conv => whnf
                      refine And.intro (by with_reducible rfl) ?_
                      conv => whnf
                      refine And.intro (by with_reducible rfl) ?_
                      conv => whnf
                      refine And.intro (by with_reducible rfl) ?_
                      conv => whnf
                      refine And.intro (by with_reducible rfl) ?_
                      conv => whnf
                      refine And.intro (by with_reducible rfl) ?_
                      conv => whnf
                      refine And.intro (by with_reducible rfl) ?_
                      conv => whnf
                      refine And.intro (by with_reducible rfl) ?_
                      conv => whnf
                      refine And.intro (by with_reducible rfl) ?_
                      conv => whnf
                      refine And.intro (by with_reducible rfl) ?_
                      conv => whnf
                      refine And.intro (by with_reducible rfl) ?_
                      conv => whnf
                      refine And.intro (by with_reducible rfl) ?_
                      conv => whnf
                      refine And.intro (by with_reducible rfl) ?_
                      conv => whnf
                      refine And.intro (by with_reducible rfl) ?_
                      conv => whnf
                      refine And.intro (by (simp only [map_rows, qs_len, wrap_i64] at *; omega)) ?_
                      conv => whnf
                      refine And.intro (by with_reducible rfl) ?_
                      conv => whnf
                      refine And.intro (by with_reducible rfl) ?_
                      exact True.intro
              · conv => whnf
                refine ⟨_, (take2 (cR room) b a) ?_, ?_⟩
                · omega
                · conv => whnf
                  refine And.intro (fun hc15 => ?_) (fun hc15 => ?_)
                  · replace hc15 := of_decide_eq_true (Bool.not_eq_false' _ |>.mp hc15)
                    conv => whnf
                    refine br_l rfl rfl ?_
                    conv => whnf
                    refine br_l rfl rfl ?_
                    conv => whnf
                    refine br_r rfl rfl ?_
                    conv => whnf
                    refine br_r rfl rfl ?_
                    conv => whnf
                    refine br_r rfl rfl ?_
                    conv => whnf
                    refine br_r rfl rfl ?_
                    conv => whnf
                    refine br_r rfl rfl ?_
                    conv => whnf
                    refine br_r rfl rfl ?_
                    conv => whnf
                    refine br_l rfl rfl ?_
                    conv => whnf
                    refine br_r rfl rfl ?_
                    conv => whnf
                    refine br_r rfl rfl ?_
                    conv => whnf
                    refine br_r rfl rfl ?_
                    conv => whnf
                    refine br_r rfl rfl ?_
                    conv => whnf
                    refine ihl0 ((i + 1, b, a)) _ ?_ ?_ (st_of ?_)
                    · dsimp only
                      (simp only [map_rows, qs_len, wrap_i64] at *; omega)
                    · dsimp only
                      (simp only [map_rows, qs_len, wrap_i64] at *; omega)
                    · conv => whnf
                      refine And.intro (by with_reducible rfl) ?_
                      conv => whnf
                      refine And.intro (by with_reducible rfl) ?_
                      conv => whnf
                      refine And.intro (by with_reducible rfl) ?_
                      refine And.intro (by with_reducible rfl) ?_
                      conv => whnf
                      refine And.intro (by with_reducible rfl) ?_
                      conv => whnf
                      refine And.intro (by with_reducible rfl) ?_
                      conv => whnf
                      refine And.intro (by with_reducible rfl) ?_
                      conv => whnf
                      refine And.intro (by with_reducible rfl) ?_
                      conv => whnf
                      refine And.intro (by with_reducible rfl) ?_
                      conv => whnf
                      refine And.intro (by with_reducible rfl) ?_
                      conv => whnf
                      refine And.intro (by with_reducible rfl) ?_
                      conv => whnf
                      refine And.intro (by with_reducible rfl) ?_
                      conv => whnf
                      refine And.intro (by with_reducible rfl) ?_
                      conv => whnf
                      refine And.intro (by with_reducible rfl) ?_
                      conv => whnf
                      refine And.intro (by with_reducible rfl) ?_
                      conv => whnf
                      refine And.intro (by with_reducible rfl) ?_
                      conv => whnf
                      refine And.intro (by with_reducible rfl) ?_
                      conv => whnf
                      refine And.intro (by with_reducible rfl) ?_
                      conv => whnf
                      refine And.intro (by with_reducible rfl) ?_
                      conv => whnf
                      refine And.intro (by with_reducible rfl) ?_
                      conv => whnf
                      refine And.intro (by with_reducible rfl) ?_
                      conv => whnf
                      refine And.intro (by with_reducible rfl) ?_
                      conv => whnf
                      refine And.intro (by with_reducible rfl) ?_
                      conv => whnf
                      refine And.intro (by with_reducible rfl) ?_
                      conv => whnf
                      refine And.intro (by with_reducible rfl) ?_
                      conv => whnf
                      refine And.intro (by with_reducible rfl) ?_
                      conv => whnf
                      refine And.intro (by with_reducible rfl) ?_
                      conv => whnf
                      refine And.intro (by with_reducible rfl) ?_
                      conv => whnf
                      refine And.intro (by with_reducible rfl) ?_
                      conv => whnf
                      refine And.intro (by (simp only [map_rows, qs_len, wrap_i64] at *; omega)) ?_
                      conv => whnf
                      refine And.intro (by with_reducible rfl) ?_
                      conv => whnf
                      refine And.intro (by with_reducible rfl) ?_
                      exact True.intro
                  · replace hc15 := of_decide_eq_false (Bool.not_eq_true' _ |>.mp hc15)
                    (exfalso; simp [hW, wrap_i64] at *; omega)
          · replace hc10 := of_decide_eq_false hc10
            conv => whnf
            refine ⟨_, long_good _ _, ?_⟩
            conv => whnf
            refine And.intro (fun hc16 => ?_) (fun hc16 => ?_)
            · replace hc16 := of_decide_eq_true hc16
              conv => whnf
              refine ⟨_, awake12_good, ?_⟩
              conv => whnf
              refine br_l rfl rfl ?_
              conv => whnf
              refine AV.of_eqv ?_
              conv => whnf
              refine And.intro (by with_reducible rfl) ?_
              exact True.intro
            · replace hc16 := of_decide_eq_false hc16
              (exfalso; simp only [hW, decide_eq_decide, decide_eq_false_iff_not, map_rows, qs_len] at *; simp only [wrap_i64] at *; omega)
        · conv => whnf
          refine And.intro (fun hc17 => ?_) (fun hc17 => ?_)
          · replace hc17 := of_decide_eq_true hc17
            conv => whnf
            refine And.intro (by omega) ?_
            refine ex_row (l := l) ?_ fun x hx => ?_
            · (simp only [map_rows, qs_len, wrap_i64] at *; omega)
            · simp only [toNat_ofNat] at hx
              conv => whnf
              refine And.intro (fun hc19 => ?_) (fun hc19 => ?_)
              · conv => whnf
                refine And.intro (by with_reducible rfl) ?_
                refine ex_byte ?_
                conv => whnf
                refine ⟨_, (put2 (cR room) b a) ?_ ?_, ?_⟩
                · omega
                · assumption
                · conv => whnf
                  refine And.intro (fun hc21 => ?_) (fun hc21 => ?_)
                  · replace hc21 := of_decide_eq_false (Bool.not_eq_true' _ |>.mp hc21)
                    (exfalso; simp [hW, wrap_i64] at *; omega)
                  · replace hc21 := of_decide_eq_true (Bool.not_eq_false' _ |>.mp hc21)
                    conv => whnf
                    refine br_r rfl rfl ?_
                    conv => whnf
                    refine ihl0 ((i + 1, b, a)) _ ?_ ?_ (st_of ?_)
                    · dsimp only
                      (simp only [map_rows, qs_len, wrap_i64] at *; omega)
                    · dsimp only
                      (simp only [map_rows, qs_len, wrap_i64] at *; omega)
                    · conv => whnf
                      refine And.intro (by with_reducible rfl) ?_
                      conv => whnf
                      refine And.intro (by with_reducible rfl) ?_
                      conv => whnf
                      refine And.intro (by with_reducible rfl) ?_
                      refine And.intro (by with_reducible rfl) ?_
                      conv => whnf
                      refine And.intro (by with_reducible rfl) ?_
                      conv => whnf
                      refine And.intro (by with_reducible rfl) ?_
                      conv => whnf
                      refine And.intro (by with_reducible rfl) ?_
                      conv => whnf
                      refine And.intro (by with_reducible rfl) ?_
                      conv => whnf
                      refine And.intro (by with_reducible rfl) ?_
                      conv => whnf
                      refine And.intro (by with_reducible rfl) ?_
                      conv => whnf
                      refine And.intro (by with_reducible rfl) ?_
                      conv => whnf
                      refine And.intro (by with_reducible rfl) ?_
                      conv => whnf
                      refine And.intro (by with_reducible rfl) ?_
                      conv => whnf
                      refine And.intro (by with_reducible rfl) ?_
                      conv => whnf
                      refine And.intro (by with_reducible rfl) ?_
                      conv => whnf
                      refine And.intro (by with_reducible rfl) ?_
                      conv => whnf
                      refine And.intro (by with_reducible rfl) ?_
                      conv => whnf
                      refine And.intro (by with_reducible rfl) ?_
                      conv => whnf
                      refine And.intro (by with_reducible rfl) ?_
                      conv => whnf
                      refine And.intro (by with_reducible rfl) ?_
                      conv => whnf
                      refine And.intro (by with_reducible rfl) ?_
                      conv => whnf
                      refine And.intro (by with_reducible rfl) ?_
                      conv => whnf
                      refine And.intro (by with_reducible rfl) ?_
                      conv => whnf
                      refine And.intro (by with_reducible rfl) ?_
                      conv => whnf
                      refine And.intro (by with_reducible rfl) ?_
                      conv => whnf
                      refine And.intro (by with_reducible rfl) ?_
                      conv => whnf
                      refine And.intro (by with_reducible rfl) ?_
                      conv => whnf
                      refine And.intro (by with_reducible rfl) ?_
                      conv => whnf
                      refine And.intro (by with_reducible rfl) ?_
                      conv => whnf
                      refine And.intro (by (simp only [map_rows, qs_len, wrap_i64] at *; omega)) ?_
                      conv => whnf
                      refine And.intro (by with_reducible rfl) ?_
                      conv => whnf
                      refine And.intro (by with_reducible rfl) ?_
                      exact True.intro
              · conv => whnf
                refine ⟨_, (take1 (cR room) b a) ?_ ?_, ?_⟩
                · omega
                · omega
                · conv => whnf
                  refine And.intro (fun hc22 => ?_) (fun hc22 => ?_)
                  · replace hc22 := of_decide_eq_true (Bool.not_eq_false' _ |>.mp hc22)
                    conv => whnf
                    refine br_l rfl rfl ?_
                    conv => whnf
                    refine br_l rfl rfl ?_
                    conv => whnf
                    refine br_l rfl rfl ?_
                    conv => whnf
                    refine br_l rfl rfl ?_
                    conv => whnf
                    refine br_l rfl rfl ?_
                    conv => whnf
                    refine br_l rfl rfl ?_
                    conv => whnf
                    refine br_l rfl rfl ?_
                    conv => whnf
                    refine And.intro (by with_reducible rfl) ?_
                    refine ex_byte ?_
                    conv => whnf
                    refine br_l rfl rfl ?_
                    conv => whnf
                    refine br_l rfl rfl ?_
                    conv => whnf
                    refine br_l rfl rfl ?_
                    conv => whnf
                    refine br_r rfl rfl ?_
                    conv => whnf
                    refine And.intro (fun hc24 => ?_) (fun hc24 => ?_)
                    · replace hc24 := of_decide_eq_false (Bool.not_eq_true' _ |>.mp hc24)
                      contradiction
                    · replace hc24 := of_decide_eq_true (Bool.not_eq_false' _ |>.mp hc24)
                      conv => whnf
                      refine br_l rfl rfl ?_
                      conv => whnf
                      refine ihl0 ((i + 1, b + 1, a)) _ ?_ ?_ (st_of ?_)
                      · dsimp only
                        (simp only [map_rows, qs_len, wrap_i64] at *; omega)
                      · dsimp only
                        (simp only [map_rows, qs_len, wrap_i64] at *; omega)
                      · conv => whnf
                        refine And.intro (by with_reducible rfl) ?_
                        conv => whnf
                        refine And.intro (by with_reducible rfl) ?_
                        conv => whnf
                        refine And.intro (by with_reducible rfl) ?_
                        refine And.intro (by with_reducible rfl) ?_
                        conv => whnf
                        refine And.intro (by with_reducible rfl) ?_
                        conv => whnf
                        refine And.intro (by with_reducible rfl) ?_
                        conv => whnf
                        refine And.intro (by (simp only [map_rows, qs_len, wrap_i64] at *; omega)) ?_
                        conv => whnf
                        refine And.intro (by with_reducible rfl) ?_
                        conv => whnf
                        refine And.intro (by with_reducible rfl) ?_
                        conv => whnf
                        refine And.intro (by with_reducible rfl) ?_
                        conv => whnf
                        refine And.intro (by with_reducible rfl) ?_
                        conv => whnf
                        refine And.intro (by with_reducible rfl) ?_
                        conv => whnf
                        refine And.intro (by with_reducible rfl) ?_
                        conv => whnf
                        refine And.intro (by with_reducible rfl) ?_
                        conv => whnf
                        refine And.intro (by with_reducible rfl) ?_
                        conv => whnf
                        refine And.intro (by with_reducible rfl) ?_
                        conv => whnf
                        refine And.intro (by with_reducible rfl) ?_
                        conv => whnf
                        refine And.intro (by with_reducible rfl) ?_
                        conv => whnf
                        refine And.intro (by with_reducible rfl) ?_
                        conv => whnf
                        refine And.intro (by with_reducible rfl) ?_
                        conv => whnf
                        refine And.intro (by with_reducible rfl) ?_
                        conv => whnf
                        refine And.intro (by with_reducible rfl) ?_
                        conv => whnf
                        refine And.intro (by with_reducible rfl) ?_
                        conv => whnf
                        refine And.intro (by with_reducible rfl) ?_
                        conv => whnf
                        refine And.intro (by with_reducible rfl) ?_
                        conv => whnf
                        refine And.intro (by with_reducible rfl) ?_
                        conv => whnf
                        refine And.intro (by with_reducible rfl) ?_
                        conv => whnf
                        refine And.intro (by with_reducible rfl) ?_
                        conv => whnf
                        refine And.intro (by with_reducible rfl) ?_
                        conv => whnf
                        refine And.intro (by (simp only [map_rows, qs_len, wrap_i64] at *; omega)) ?_
                        conv => whnf
                        refine And.intro (by with_reducible rfl) ?_
                        conv => whnf
                        refine And.intro (by with_reducible rfl) ?_
                        exact True.intro
                  · replace hc22 := of_decide_eq_false (Bool.not_eq_true' _ |>.mp hc22)
                    (exfalso; simp [hW, wrap_i64] at *; omega)
          · replace hc17 := of_decide_eq_false hc17
            conv => whnf
            refine ⟨_, long_good _ _, ?_⟩
            conv => whnf
            refine And.intro (fun hc25 => ?_) (fun hc25 => ?_)
            · replace hc25 := of_decide_eq_true hc25
              conv => whnf
              refine ⟨_, awake12_good, ?_⟩
              conv => whnf
              refine br_l rfl rfl ?_
              conv => whnf
              refine AV.of_eqv ?_
              conv => whnf
              refine And.intro (by with_reducible rfl) ?_
              exact True.intro
            · replace hc25 := of_decide_eq_false hc25
              (exfalso; simp only [hW, decide_eq_decide, decide_eq_false_iff_not, map_rows, qs_len] at *; simp only [wrap_i64] at *; omega)
end Go.Proofs.Ytmchbkmenokkdaa

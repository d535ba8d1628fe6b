/- The contracts of pack's Unvar and of its reference. -/
import Derived.Test.YtnkpilgacnpdiaaVarB
namespace Go.Proofs.Ytnkpilgacnpdiaa
open Go.RowKit

/-- a number of as many bytes as it needs, what follows it, the error: the i-th byte stands next -/
def uv (i acc : Nat) : List UInt8 → Nat × List UInt8 × Int
  | [] => (0, [], 2)
  | b :: r => if i = 9 ∧ 1 < b.toNat then (0, [], 4) else if b.toNat = 0 ∧ 0 < i then (0, [], 3)
    else if b.toNat < 128 then (acc + b.toNat % 128 * 128 ^ i, r, 0) else uv (i + 1) (acc + b.toNat % 128 * 128 ^ i) r
theorem uv_cons (i acc : Nat) (b : UInt8) (r : List UInt8) : uv i acc (b :: r) = if i = 9 ∧ 1 < b.toNat then (0, [], 4) else if b.toNat = 0 ∧ 0 < i then (0, [], 3)
    else if b.toNat < 128 then (acc + b.toNat % 128 * 128 ^ i, r, 0) else uv (i + 1) (acc + b.toNat % 128 * 128 ^ i) r := rfl
theorem mask127u8 (b : UInt8) : bits .and .u8 (b.toNat : Int) 127 = (b.toNat : Int) % 128 := by
  have hb := b.toNat_lt
  have := u8_and_nat b.toNat 127 (by omega) (by omega)
  rw [nat_mask7] at this
  rw [show (b.toNat : Int) % 128 = ((b.toNat % 128 : Nat) : Int) from by omega]
  exact this
theorem mask127c (b : UInt8) : bits .and .u64 (b.toNat : Int) 127 = (b.toNat : Int) % 128 := by
  have hb := b.toNat_lt
  rw [mask127 b.toNat (by omega)]
  omega
theorem or_var (acc b i : Nat) (hacc : acc < 128 ^ i) (hx : b % 128 * 128 ^ i + acc ≤ 18446744073709551615) :
    bits .or .u64 (acc : Int) (IntKind.u64.wrap ((b : Int) % 128 * 2 ^ (7 * i))) = ((acc + b % 128 * 128 ^ i : Nat) : Int) := by
  have e : (2 : Nat) ^ (7 * i) = 128 ^ i := by rw [Nat.pow_mul]
  have e2 : (b : Int) % 128 * 2 ^ (7 * i) = ((b % 128 * 128 ^ i : Nat) : Int) := by
    rw [← e]; simp
  have h2 := Nat.shiftLeft_add_eq_or_of_lt (i := 7 * i) (b := acc) (by rw [e]; exact hacc) (b % 128)
  rw [Nat.shiftLeft_eq, e] at h2
  rw [e2]
  generalize b % 128 * 128 ^ i = M at *
  have h1 := u64_or_nat acc M (by omega) (by omega)
  rw [IntWalk.u64_in _ ⟨by omega, by omega⟩, h1, Nat.or_comm, ← h2, Nat.add_comm]
theorem var_fits {acc b i : Nat} (hi : i ≤ 9) (hacc : acc < 128 ^ i) (hb : i = 9 → b ≤ 1) : b % 128 * 128 ^ i + acc ≤ 18446744073709551615 := by
  rcases Nat.lt_or_ge i 9 with h | h
  · have h1 : b % 128 * 128 ^ i ≤ 127 * 128 ^ i := Nat.mul_le_mul_right _ (by omega)
    have h2 : 128 ^ i ≤ 128 ^ 8 := Nat.pow_le_pow_right (by omega) (by omega)
    have h3 : (128 : Nat) ^ 8 = 72057594037927936 := by decide
    rw [h3] at h2
    generalize b % 128 * 128 ^ i = M at *
    generalize 128 ^ i = N at *
    omega
  · have h9 : i = 9 := by omega
    have h1 : b % 128 * 128 ^ i ≤ 1 * 128 ^ i := Nat.mul_le_mul_right _ (Nat.le_trans (Nat.mod_le _ _) (hb h9))
    have h3 : (128 : Nat) ^ i = 9223372036854775808 := by rw [h9]
    generalize b % 128 * 128 ^ i = M at *
    rw [h3] at hacc h1
    omega
theorem var_next {acc b i : Nat} (hacc : acc < 128 ^ i) : acc + b % 128 * 128 ^ i < 128 ^ (i + 1) := by
  have h1 : b % 128 * 128 ^ i ≤ 127 * 128 ^ i := Nat.mul_le_mul_right _ (by omega)
  rw [Nat.pow_succ]
  omega

theorem or_nine (acc b : Nat) (hacc : acc < 128 ^ 9) (hb : b ≤ 1) : bits .or .u64 (acc : Int) ((b : Int) % 128 * 9223372036854775808) = ((acc + b % 128 * 128 ^ 9 : Nat) : Int) := by
  have h := or_var acc b 9 hacc (var_fits (by omega) hacc (fun _ => hb))
  have e : (b : Int) % 128 * 2 ^ (7 * 9) = (b : Int) % 128 * 9223372036854775808 := by rw [show ((2 : Int) ^ (7 * 9)) = 9223372036854775808 from by decide]
  rw [e, IntWalk.u64_in _ ⟨by omega, by omega⟩] at h
  exact h
/-- what holds ahead of the i-th byte -/
def UvR (l : List UInt8) (n o e c : Value) : Prop := ∃ i acc : Nat, i ≤ l.length ∧ i ≤ 9 ∧ n = .int .u64 (acc : Nat) ∧ o = .int .i64 0 ∧ e = .int .i64 2 ∧ c = .int .i64 (i : Nat) ∧ acc < 128 ^ i ∧ uv i acc (l.drop i) = uv 0 0 l

theorem ret_uv {l : List UInt8} {r : Nat × List UInt8 × Int} (h : uv 0 0 l = r) {w w' : World} (hb : Below w.heap.size w w') :
    (Ending.returned (.tuple #[.int .u64 (r.1 : Nat), .string (str r.2.1), .int .i64 r.2.2]) = .returned (.tuple #[.int .u64 ((uv 0 0 l).1 : Nat), .string (str (uv 0 0 l).2.1), .int .i64 (uv 0 0 l).2.2])) ∧ Below w.heap.size w w' := by
  rw [h]; exact ⟨rfl, hb⟩

set_option maxRecDepth 100000 in
set_option maxHeartbeats 1600000 in
theorem unvar_any (l : List UInt8) (hl : l.length ≤ maxLen) (w : World) :
    Calls Try.prog 12 #[.string (str l)] w fun e w' => e = .returned (.tuple #[.int .u64 ((uv 0 0 l).1 : Nat), .string (str (uv 0 0 l).2.1), .int .i64 (uv 0 0 l).2.2]) ∧ Below w.heap.size w w' := by
  unfold maxLen at hl
  go_enter Try.func12, Try.ntmps12
  go_wp2
  go_step3
  go_wp2
  go_step3
  go_wp2
  go_loop [5, 6, 7, 8, 9, 12] (fun n o e _ _ c => UvR l n o e c) (fun _ _ _ _ _ c => l.length - (intOf c).toNat)
  case atStart => exact ⟨0, 0, by omega, by omega, rfl, rfl, rfl, rfl, by show 0 < 128 ^ 0; omega, rfl⟩
  case round =>
    obtain ⟨i, acc, hi, hi9, rfl, rfl, rfl, rfl, hacc, huv⟩ := hrel
    have Hacc := Lib.hid hacc
    clear hacc
    by_cases hlt : i < l.length
    · have hb := l[i].toNat_lt
      rw [List.drop_eq_getElem_cons hlt, uv_cons] at huv
      have e1 := mask127u8 l[i]
      have q2 : (i : Int) + 1 ≤ (l.length : Int) := by omega
      have q3 : (0 : Int) ≤ (i : Int) + 1 := by omega
      have q4 : ((i : Int) + 1).toNat = i + 1 := by omega
      by_cases h9 : i < 9
      · rw [if_neg (by omega)] at huv
        have hor := or_var acc l[i].toNat i Hacc.out (var_fits hi9 Hacc.out (by omega))
        have hnx := Lib.hid (var_next (b := l[i].toNat) Hacc.out)
        generalize acc + l[i].toNat % 128 * 128 ^ i = A at *
        by_cases hb8 : 128 ≤ l[i].toNat
        · rw [if_neg (by omega), if_neg (by omega)] at huv
          have Huv := Lib.hid huv
          clear huv
          go_wp2
          go_round
          case rel => exact ⟨.int .u64 (A : Nat), .int .i64 0, .int .i64 2, _, _, .int .i64 (i + 1 : Nat), ⟨i + 1, A, by omega, by omega, rfl, rfl, rfl, rfl, hnx.out, Huv.out⟩, rfl, rfl, rfl, rfl, rfl, by go_num⟩
          case measure => simp [intOf]; omega
        · by_cases hz : l[i].toNat = 0 ∧ 0 < i
          · rw [if_pos hz] at huv
            have Huv := Lib.hid huv
            obtain ⟨hz1, hz2⟩ := hz
            clear huv
            go_wp2
            try rw [Exit.noGoto_ret]
            go_ret3
            exact ret_uv Huv.out.symm (Below.refl _ _)
          · rw [if_neg hz, if_pos (by omega)] at huv
            have Huv := Lib.hid huv
            clear huv
            by_cases hz0 : l[i].toNat = 0
            · obtain rfl : i = 0 := by omega
              obtain rfl : acc = 0 := by have := Hacc.out; omega
              obtain rfl : A = 0 := by
                rw [hz0] at hor
                have h : ((A : Nat) : Int) = 0 := by rw [← hor]; decide
                omega
              have c1 : bits .and .u8 0 127 = 0 := by decide
              have c2 : bits .or .u64 0 0 = 0 := by decide
              rw [show List.drop (0 + 1) l = l.tail from by simp] at Huv
              clear e1 hor hz
              go_wp2
              go_quiet (fail)
              go_wp2
              try rw [Exit.noGoto_ret]
              go_ret3
              exact ret_uv Huv.out.symm (below_drewN (Below.refl _ _) _)
            · go_wp2
              go_quiet (fail)
              go_wp2
              try rw [Exit.noGoto_ret]
              go_ret3
              exact ret_uv Huv.out.symm (below_drewN (Below.refl _ _) _)
      · obtain rfl : i = 9 := by omega
        by_cases h1 : 1 < l[9].toNat
        · rw [if_pos ⟨rfl, h1⟩] at huv
          have Huv := Lib.hid huv
          clear huv
          go_wp2
          try rw [Exit.noGoto_ret]
          go_ret3
          exact ret_uv Huv.out.symm (Below.refl _ _)
        · rw [if_neg (fun h => h1 h.2)] at huv
          by_cases hz : l[9].toNat = 0
          · rw [if_pos ⟨hz, by omega⟩] at huv
            have Huv := Lib.hid huv
            clear huv
            go_wp2
            try rw [Exit.noGoto_ret]
            go_ret3
            exact ret_uv Huv.out.symm (Below.refl _ _)
          · rw [if_neg (fun h => hz h.1), if_pos (by omega)] at huv
            have Hor := Lib.hid (or_nine acc l[9].toNat Hacc.out (by omega))
            have Huv := Lib.hid huv
            clear huv
            generalize acc + l[9].toNat % 128 * 128 ^ 9 = A at *
            go_wp2
            rw [Hor.out]
            go_quiet (fail)
            go_wp2
            try rw [Exit.noGoto_ret]
            go_ret3
            exact ret_uv Huv.out.symm (below_drewN (Below.refl _ _) _)
    · have Huv : Hid (uv 0 0 l = (0, [], 2)) := by
        show _ = _
        rw [← huv, List.drop_eq_nil_of_le (by omega)]
        rfl
      clear huv
      go_wp2
      try rw [Exit.noGoto_ret]
      go_ret3
      exact ret_uv Huv.out (Below.refl _ _)
set_option maxRecDepth 100000 in
set_option maxHeartbeats 1600000 in
theorem unvar_ref (l : List UInt8) (hl : l.length ≤ maxLen) (w : World) :
    Calls Try.prog 13 #[.string (str l)] w fun e w' => e = .returned (.tuple #[.int .u64 ((uv 0 0 l).1 : Nat), .string (str (uv 0 0 l).2.1), .int .i64 (uv 0 0 l).2.2]) ∧ Below w.heap.size w w' := by
  unfold maxLen at hl
  go_enter Try.func13, Try.ntmps13
  go_wp2
  go_loop [5, 6, 7, 10] (fun n _ _ c => UvR l n (.int .i64 0) (.int .i64 2) c) (fun _ _ _ c => l.length - (intOf c).toNat)
  case atStart => exact ⟨0, 0, by omega, by omega, rfl, rfl, rfl, rfl, by show 0 < 128 ^ 0; omega, rfl⟩
  case round =>
    obtain ⟨i, acc, hi, hi9, rfl, _, _, rfl, hacc, huv⟩ := hrel
    have Hacc := Lib.hid hacc
    clear hacc
    by_cases hlt : i < l.length
    · have hb := l[i].toNat_lt
      rw [List.drop_eq_getElem_cons hlt, uv_cons] at huv
      have e1 := mask127c l[i]
      have q2 : (i : Int) + 1 ≤ (l.length : Int) := by omega
      have q3 : (0 : Int) ≤ (i : Int) + 1 := by omega
      have q1 : IntKind.i64.wrap ((i : Int) + 1) = (i : Int) + 1 := IntWalk.i64_in _ (by omega)
      have q4 : ((i : Int) + 1).toNat = i + 1 := by omega
      by_cases h9 : i < 9
      · rw [if_neg (by omega)] at huv
        have hor := or_var acc l[i].toNat i Hacc.out (var_fits hi9 Hacc.out (by omega))
        have hnx := Lib.hid (var_next (b := l[i].toNat) Hacc.out)
        generalize acc + l[i].toNat % 128 * 128 ^ i = A at *
        by_cases hb8 : 128 ≤ l[i].toNat
        · rw [if_neg (by omega), if_neg (by omega)] at huv
          have Huv := Lib.hid huv
          clear huv
          go_wp2
          go_round
          case rel => exact ⟨i + 1, A, by omega, by omega, rfl, rfl, rfl, by go_num, hnx.out, Huv.out⟩
          case measure => simp [intOf]; omega
        · by_cases hz : l[i].toNat = 0 ∧ 0 < i
          · rw [if_pos hz] at huv
            have Huv := Lib.hid huv
            obtain ⟨hz1, hz2⟩ := hz
            clear huv
            go_wp2
            go_ret3
            exact ret_uv Huv.out.symm (Below.refl _ _)
          · rw [if_neg hz, if_pos (by omega)] at huv
            have Huv := Lib.hid huv
            clear huv
            by_cases hz0 : l[i].toNat = 0
            · obtain rfl : i = 0 := by omega
              obtain rfl : acc = 0 := by have := Hacc.out; omega
              obtain rfl : A = 0 := by
                rw [hz0] at hor
                have h : ((A : Nat) : Int) = 0 := by rw [← hor]; decide
                omega
              have c1 : bits .and .u64 0 127 = 0 := by decide
              have c2 : bits .or .u64 0 0 = 0 := by decide
              rw [show List.drop (0 + 1) l = l.tail from by simp] at Huv
              have q5 : (1 : Int) ≤ (l.length : Int) := by omega
              clear e1 hor hz q1 q2 q3 q4
              go_wp2
              go_quiet (fail)
              go_wp2
              go_ret3
              exact ret_uv Huv.out.symm (below_drewN (Below.refl _ _) _)
            · go_wp2
              go_quiet (fail)
              go_wp2
              go_ret3
              exact ret_uv Huv.out.symm (below_drewN (Below.refl _ _) _)
      · obtain rfl : i = 9 := by omega
        by_cases h1 : 1 < l[9].toNat
        · rw [if_pos ⟨rfl, h1⟩] at huv
          have Huv := Lib.hid huv
          clear huv
          go_wp2
          go_ret3
          exact ret_uv Huv.out.symm (Below.refl _ _)
        · rw [if_neg (fun h => h1 h.2)] at huv
          by_cases hz : l[9].toNat = 0
          · rw [if_pos ⟨hz, by omega⟩] at huv
            have Huv := Lib.hid huv
            clear huv
            go_wp2
            go_ret3
            exact ret_uv Huv.out.symm (Below.refl _ _)
          · rw [if_neg (fun h => hz h.1), if_pos (by omega)] at huv
            have q5 : (10 : Int) ≤ (l.length : Int) := by omega
            clear q1 q2 q3 q4
            have Hor := Lib.hid (or_nine acc l[9].toNat Hacc.out (by omega))
            have Huv := Lib.hid huv
            clear huv
            generalize acc + l[9].toNat % 128 * 128 ^ 9 = A at *
            go_wp2
            rw [Hor.out]
            go_quiet (fail)
            go_wp2
            go_ret3
            exact ret_uv Huv.out.symm (below_drewN (Below.refl _ _) _)
    · have Huv : Hid (uv 0 0 l = (0, [], 2)) := by
        show _ = _
        rw [← huv, List.drop_eq_nil_of_le (by omega)]
        rfl
      clear huv
      go_wp2
      go_ret3
      exact ret_uv Huv.out (Below.refl _ _)
end Go.Proofs.Ytnkpilgacnpdiaa

/- The law PackVars, walked. -/
import Derived.Test.YtnkpilgacnpdiaaUnvar
import Derived.Test.YtnkpilgacnpdiaaAwake1
namespace Go.Proofs.Ytnkpilgacnpdiaa
open Go.RowKit

theorem uv_varF (f : Nat) : ∀ (i n acc : Nat) (s : List UInt8), f + i = 9 → n * 128 ^ i ≤ 18446744073709551615 → (0 < i → 0 < n) → uv i acc (varF f n ++ s) = (acc + n * 128 ^ i, s, 0) := by
  have small : ∀ (i n acc : Nat) (s : List UInt8), n < 128 → (i = 9 → n ≤ 1) → (0 < i → 0 < n) → uv i acc ([UInt8.ofNat n] ++ s) = (acc + n * 128 ^ i, s, 0) := by
    intro i n acc s h h9 h0
    have e := ofNat_toNat n (by omega)
    show uv i acc (UInt8.ofNat n :: s) = _
    rw [uv_cons, e, if_neg (by omega), if_neg (by omega), if_pos h, Nat.mod_eq_of_lt h]
  have nine : ∀ (i n : Nat), i = 9 → n * 128 ^ i ≤ 18446744073709551615 → n ≤ 1 := by
    intro i n hi h
    rw [hi, show (128 : Nat) ^ 9 = 9223372036854775808 from by decide] at h
    omega
  induction f with
  | zero =>
    intro i n acc s hf hn h0
    have := nine i n (by omega) hn
    exact small i n acc s (by omega) (fun _ => this) h0
  | succ f ih =>
    intro i n acc s hf hn h0
    unfold varF
    by_cases h : 128 ≤ n
    · rw [if_pos h]
      have e := ofNat_toNat (n % 128 + 128) (by omega)
      have ep : n % 128 * 128 ^ i + n / 128 * 128 ^ (i + 1) = n * 128 ^ i := by
        rw [Nat.pow_succ, Nat.mul_comm (128 ^ i) 128, ← Nat.mul_assoc, ← Nat.add_mul]
        congr 1
        omega
      rw [List.cons_append, uv_cons, e, if_neg (by omega), if_neg (by omega), if_neg (by omega), show (n % 128 + 128) % 128 = n % 128 from by omega]
      rw [ih (i + 1) (n / 128) _ s (by omega) (by omega) (by omega), Nat.add_assoc, ep]
    · rw [if_neg h]
      exact small i n acc s (by omega) (fun hi => nine i n hi hn) h0
theorem uv_var (n : Nat) (hn : n ≤ 18446744073709551615) (s : List UInt8) : uv 0 0 (varB n ++ s) = (n, s, 0) := by
  have := uv_varF 9 0 n 0 s rfl (by omega) (by omega)
  simpa [varB] using this

theorem uv_back (s : List UInt8) : ∀ (i acc m : Nat) (r : List UInt8), i ≤ 9 → uv i acc s = (m, r, 0) → ∃ k, m = acc + k * 128 ^ i ∧ varF (9 - i) k ++ r = s ∧ (0 < i → 0 < k) ∧ (acc < 128 ^ i → m ≤ 18446744073709551615) := by
  induction s with
  | nil => intro i acc m r _ h; simp [uv] at h
  | cons b t ih =>
    intro i acc m r hi h
    have hb := b.toNat_lt
    rw [uv_cons] at h
    by_cases h9 : i = 9 ∧ 1 < b.toNat
    · rw [if_pos h9] at h; simp at h
    rw [if_neg h9] at h
    by_cases hz : b.toNat = 0 ∧ 0 < i
    · rw [if_pos hz] at h; simp at h
    rw [if_neg hz] at h
    by_cases h1 : b.toNat < 128
    · rw [if_pos h1, Nat.mod_eq_of_lt h1] at h
      injection h with h2 h3
      injection h3 with h3 _
      refine ⟨b.toNat, h2.symm, ?_, by omega, fun hacc => ?_⟩
      · rw [var_end i b.toNat h1, ← h3]; simp
      · have := var_fits (b := b.toNat) hi hacc (by omega)
        rw [Nat.mod_eq_of_lt h1] at this
        omega
    · rw [if_neg h1] at h
      have hi8 : i < 9 := by omega
      obtain ⟨k, hm, hk, hk0, hle⟩ := ih (i + 1) _ m r (by omega) h
      have ep : b.toNat % 128 * 128 ^ i + k * 128 ^ (i + 1) = (b.toNat % 128 + 128 * k) * 128 ^ i := by
        rw [Nat.pow_succ, Nat.mul_comm (128 ^ i) 128, ← Nat.mul_assoc, ← Nat.add_mul, Nat.mul_comm 128 k]
      have hk1 := hk0 (by omega)
      refine ⟨b.toNat % 128 + 128 * k, by rw [hm, Nat.add_assoc, ep], ?_, by omega, fun hacc => hle (var_next hacc)⟩
      have e : 9 - i = (9 - (i + 1)) + 1 := by omega
      rw [e]
      show (if 128 ≤ b.toNat % 128 + 128 * k then UInt8.ofNat ((b.toNat % 128 + 128 * k) % 128 + 128) :: varF (9 - (i + 1)) ((b.toNat % 128 + 128 * k) / 128) else _) ++ r = _
      rw [if_pos (by omega), show (b.toNat % 128 + 128 * k) % 128 + 128 = b.toNat from by omega, show (b.toNat % 128 + 128 * k) / 128 = k from by omega, List.cons_append, hk]
      simp

set_option maxRecDepth 100000 in
set_option maxHeartbeats 1600000 in
theorem vars_walk (n : Nat) (hn : n ≤ 18446744073709551615) (k : Int) (hk0 : -9223372036854775808 ≤ k) (hk1 : k ≤ 9223372036854775807) (l : List UInt8) (hl : l.length ≤ maxLen) (w : World) :
    Calls Try.prog 5 #[.int .u64 n, .int .i64 k, .string (str l)] w fun e w' => e = .returned (.bool true) ∧ Below w.heap.size w w' := by
  have HB := Lib.hid (Below.refl w.heap.size w)
  by_cases h1 : 300 < l.length
  · unfold maxLen at hl
    go_enter Try.func5, Try.ntmps5
    go_wp2_with (go_at_call 6; refine (awake_any _).mono ?_; rintro e w1 ⟨rfl, hb1⟩; replace HB := Lib.hid (below_step HB.out hb1); clear hb1)
    go_ret
    exact ⟨rfl, HB.out⟩
  clear hl
  obtain ⟨a, r, e, eu⟩ : ∃ a r e, uv 0 0 l = (a, r, e) := ⟨_, _, _, rfl⟩
  have ev := uv_var n hn l
  have ez1 := zag_zig k
  have ez2 := zig_zag (n : Int) (by omega)
  obtain ⟨z1, z2⟩ := zig_bd k hk0 hk1
  obtain ⟨y1, y2⟩ := zag_bd (n : Int) (by omega) (by omega)
  have hvl : (varB n).length ≤ 10 := varF_length 9 n
  by_cases he : e = 0
  · subst he
    obtain ⟨k', hm, hk, hq, hle⟩ := uv_back l 0 0 a r (by omega) eu
    have ha := hle (by omega)
    have ek : varB a ++ r = l := by
      have e3 : a = k' := by simpa using hm
      rw [e3]; exact hk
    have hrl : r.length ≤ 300 := by rw [← ek] at h1; simp at h1; omega
    have hval : (varB a).length ≤ 10 := varF_length 9 a
    clear hm hk hq hle k'
    go_enter Try.func5, Try.ntmps5
    go_wp2_with (first
      | (go_at_call 12; refine (unvar_any _ (by simp only [maxLen, List.length_append]; omega) _).mono ?_; rintro e w1 ⟨rfl, hb1⟩; replace HB := Lib.hid (below_step HB.out hb1); clear hb1)
      | (go_at_call 13; refine (unvar_ref _ (by simp only [maxLen]; omega) _).mono ?_; rintro e w1 ⟨rfl, hb1⟩; replace HB := Lib.hid (below_step HB.out hb1); clear hb1)
      | (go_at_call 14; refine (var_any _ (by omega) _).mono ?_; rintro e w1 ⟨rfl, hb1⟩; replace HB := Lib.hid (below_step HB.out hb1); clear hb1)
      | (go_at_call 15; refine (var_ref _ (by omega) _).mono ?_; rintro e w1 ⟨rfl, hb1⟩; replace HB := Lib.hid (below_step HB.out hb1); clear hb1)
      | (go_at_call 16; refine (zig_any _ (by omega) (by omega) _).mono ?_; rintro e w1 ⟨rfl, rfl⟩)
      | (go_at_call 17; refine (zig_ref _ (by omega) (by omega) _).mono ?_; rintro e w1 ⟨rfl, rfl⟩)
      | (go_at_call 18; refine (zag_any _ (by omega) (by omega) _).mono ?_; rintro e w1 ⟨rfl, rfl⟩)
      | (go_at_call 19; refine (zag_ref _ (by omega) (by omega) _).mono ?_; rintro e w1 ⟨rfl, rfl⟩)
      | (go_at_call 6; refine (awake_any _).mono ?_; rintro e w1 ⟨rfl, hb1⟩; replace HB := Lib.hid (below_step HB.out hb1); clear hb1))
    go_ret
    exact ⟨rfl, HB.out⟩
  · have he' : (e == 0) = false := beq_eq_false_iff_ne.2 he
    have he'' : (e != 0) = true := by rw [bne_iff_ne]; exact he
    go_enter Try.func5, Try.ntmps5
    go_wp2_with (first
      | (go_at_call 12; refine (unvar_any _ (by simp only [maxLen, List.length_append]; omega) _).mono ?_; rintro e w1 ⟨rfl, hb1⟩; replace HB := Lib.hid (below_step HB.out hb1); clear hb1)
      | (go_at_call 13; refine (unvar_ref _ (by simp only [maxLen]; omega) _).mono ?_; rintro e w1 ⟨rfl, hb1⟩; replace HB := Lib.hid (below_step HB.out hb1); clear hb1)
      | (go_at_call 14; refine (var_any _ (by omega) _).mono ?_; rintro e w1 ⟨rfl, hb1⟩; replace HB := Lib.hid (below_step HB.out hb1); clear hb1)
      | (go_at_call 15; refine (var_ref _ (by omega) _).mono ?_; rintro e w1 ⟨rfl, hb1⟩; replace HB := Lib.hid (below_step HB.out hb1); clear hb1)
      | (go_at_call 16; refine (zig_any _ (by omega) (by omega) _).mono ?_; rintro e w1 ⟨rfl, rfl⟩)
      | (go_at_call 17; refine (zig_ref _ (by omega) (by omega) _).mono ?_; rintro e w1 ⟨rfl, rfl⟩)
      | (go_at_call 18; refine (zag_any _ (by omega) (by omega) _).mono ?_; rintro e w1 ⟨rfl, rfl⟩)
      | (go_at_call 19; refine (zag_ref _ (by omega) (by omega) _).mono ?_; rintro e w1 ⟨rfl, rfl⟩)
      | (go_at_call 6; refine (awake_any _).mono ?_; rintro e w1 ⟨rfl, hb1⟩; replace HB := Lib.hid (below_step HB.out hb1); clear hb1))
    go_ret
    exact ⟨rfl, HB.out⟩
end Go.Proofs.Ytnkpilgacnpdiaa

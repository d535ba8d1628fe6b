/- Bytes: what is put and taken, for acks, parcels and parts. -/
import Derived.Test.YtkcdeefnkbbacaaW05
import Derived.Test.YtkcdeefnkbbacaaNumV
set_option maxRecDepth 100000
namespace Go.Proofs.Ytkcdeefnkbbacaa
open Go.RowKit
set_option maxHeartbeats 4000000
theorem vnb {x : Int} {k : Nat} (h0 : 0 ≤ x) (h : x.toNat < 256 ^ k) : ((valB 0 (nb x k) : Nat) : Int) = x := by
  unfold nb
  rw [valB_numB, Nat.zero_mul, Nat.zero_add, Nat.mod_eq_of_lt h]
  exact Int.toNat_of_nonneg h0
theorem nbv (s : By) (k : Nat) (h : k ≤ s.length) : nb ((valB 0 (s.take k) : Nat) : Int) k = s.take k := by
  have := numB_valB 0 (s.take k)
  rw [List.length_take, Nat.min_eq_left h] at this
  unfold nb
  rw [Int.toNat_natCast]
  exact this
theorem pw1 : (256 : Nat) ^ 1 = 256 := by decide
theorem pw2 : (256 : Nat) ^ 2 = 65536 := by decide
theorem pw4 : (256 : Nat) ^ 4 = 4294967296 := by decide
theorem takeA {a b : By} {k : Nat} (h : a.length = k) : (a ++ b).take k = a := by subst h; simp
theorem dropA {a b : By} {k : Nat} (h : a.length = k) : (a ++ b).drop k = b := by subst h; simp
theorem va1_b (s : By) : valB 0 (s.take 1) ≤ 255 := by
  have h := valB_lt 0 (s.take 1)
  have h1 : (s.take 1).length ≤ 1 := by simp; omega
  have h2 : 256 ^ (s.take 1).length ≤ 256 ^ 1 := Nat.pow_le_pow_right (by omega) h1
  omega
theorem va2_b (s : By) : valB 0 (s.take 2) ≤ 65535 := by
  have h := valB_lt 0 (s.take 2)
  have h1 : (s.take 2).length ≤ 2 := by simp; omega
  have h2 : 256 ^ (s.take 2).length ≤ 256 ^ 2 := Nat.pow_le_pow_right (by omega) h1
  rw [pw2] at h2
  omega
theorem w64b {n : Nat} (h : n ≤ 65535) : IntKind.i64.wrap (n : Int) = n := by rw [wrap_i64]; omega
theorem takeOf_okB {l : By} {k : Int} (c : Nat) (hk : k = c) (hc : c ≤ 8) (h : c ≤ l.length) : takeOf l k = (valB 0 (l.take c), l.drop c, 0) := by
  subst hk
  unfold takeOf
  rw [if_neg (by omega), if_neg (by omega), Int.toNat_natCast]
theorem take_gdB {l : By} {k : Int} {n : Nat} {r : By} {e : Int} (h : takeOf l k = (n, r, e)) : Good Try.prog 82 [.str l, .int .i64 k] (.tuple [.int .u64 (n : Nat), .str r, .int .i64 e]) :=
  (take_good l k).eq (by rw [h])
theorem take_okB (l : By) (k : Int) (c : Nat) (hk : k = c) (hc : c ≤ 8) (h : c ≤ l.length) : Good Try.prog 82 [.str l, .int .i64 k] (.tuple [.int .u64 (valB 0 (l.take c) : Nat), .str (l.drop c), .int .i64 0]) :=
  take_gdB (takeOf_okB c hk hc h)
theorem pb_q4 (l : By) (h : 16 ≤ l.length) : pb (q4 l 0) (q4 l 1) (q4 l 2) (q4 l 3) = l.take 16 := by
  unfold pb q4
  simp only [Int.toNat_natCast]
  rw [pairB_assoc, numB_quad l 0 (by omega), numB_quad l 1 (by omega), numB_quad l 2 (by omega), numB_quad l 3 (by omega)]
  rw [show (16 : Nat) = 4 + (4 + (4 + 4)) from rfl, List.take_add, List.take_add, List.take_add, List.drop_drop, List.drop_drop]
  rfl
theorem quad_app {a b : By} {k : Nat} (h : 4 * k + 4 ≤ a.length) : quad (a ++ b) k = quad a k := by
  unfold quad
  rw [List.drop_append_of_le_length (by omega), List.take_append_of_le_length (by simp; omega)]
theorem q4_pb {a b c d : Int} {r : By} (ha : u32b a) (hb : u32b b) (hc : u32b c) (hd : u32b d) : q4 (pb a b c d ++ r) 0 = a ∧ q4 (pb a b c d ++ r) 1 = b ∧ q4 (pb a b c d ++ r) 2 = c ∧ q4 (pb a b c d ++ r) 3 = d := by
  unfold u32b at ha hb hc hd
  have hl := pb_len a b c d
  unfold q4
  rw [quad_app (by omega), quad_app (by omega), quad_app (by omega), quad_app (by omega)]
  unfold pb
  rw [quad_pairB0 _ _ _ _ (by omega), quad_pairB1 _ _ _ _ (by omega), quad_pairB2 _ _ _ _ (by omega), quad_pairB3 _ _ _ _ (by omega)]
  omega
theorem hd_val {s : By} {b : UInt8} (h : s[0]? = some b) : ((b.toNat : Nat) : Int) = ((valB 0 (s.take 1) : Nat) : Int) := by
  rw [take_at h]
  simp [valB]
end Go.Proofs.Ytkcdeefnkbbacaa

/- The law PackBack, walked: what was put is taken, and what follows it is left. -/
import Derived.Test.YtnkpilgacnpdiaaAwake1
import Derived.Deep.RegionHeld3
import Derived.Deep.DeepCutAuto
namespace Go.Proofs.Ytnkpilgacnpdiaa
open Go.RowKit

theorem low_eq (n k : Nat) (hn : n ≤ 18446744073709551615) (hk : k < 8) : bits .and .u64 (n : Int) (IntKind.u64.wrap (IntKind.u64.wrap (2 ^ (8 * k)) - 1)) = ((n % 256 ^ k : Nat) : Int) := by
  have e : (2 : Nat) ^ (8 * k) = 256 ^ k := by rw [Nat.pow_mul]
  have h1 : 0 < 256 ^ k := Nat.pow_pos (by omega)
  have h2 : 256 ^ k ≤ 256 ^ 7 := Nat.pow_le_pow_right (by omega) (by omega)
  have h3 : (256 : Nat) ^ 7 = 72057594037927936 := by decide
  have e2 : ((2 : Int) ^ (8 * k)) = ((256 ^ k : Nat) : Int) := by
    rw [← e]; simp
  have h5 := Nat.and_two_pow_sub_one_eq_mod n (8 * k)
  rw [e] at h5
  rw [e2]
  rw [h3] at h2
  clear e e2
  generalize 256 ^ k = M at *
  have h4 := u64_and_nat n (M - 1) (by omega) (by omega)
  have e3 : IntKind.u64.wrap (M : Int) = (M : Int) := IntWalk.u64_in _ ⟨by omega, by omega⟩
  have e4 : IntKind.u64.wrap ((M : Int) - 1) = ((M - 1 : Nat) : Int) := by rw [IntWalk.u64_in _ ⟨by omega, by omega⟩]; omega
  rw [e3, e4, h4, h5]

/-- block g is the pair of texts -/
theorem pair_keep {g : Nat} {a b : Value} {W W' : World} (hb : Below W.heap.size W W') (h : g < W.heap.size ∧ W.cell? ⟨g, 0, none⟩ = some a ∧ W.cell? ⟨g, 1, none⟩ = some b) :
    g < W'.heap.size ∧ W'.cell? ⟨g, 0, none⟩ = some a ∧ W'.cell? ⟨g, 1, none⟩ = some b :=
  ⟨Nat.lt_of_lt_of_le h.1 hb.size, ((bcell hb).1 g 0 h.1).trans h.2.1, ((bcell hb).1 g 1 h.1).trans h.2.2⟩

theorem takeOf_num (n k : Nat) (hk : k ≤ 8) (b : List UInt8) : takeOf (numB n k ++ b) k = (n % 256 ^ k, b, 0) := by
  have h1 := numB_length n k
  unfold takeOf
  rw [if_neg (by omega), if_neg (by simp [h1]; omega)]
  have e : ((k : Int)).toNat = k := by omega
  rw [e, List.take_left' h1, List.drop_left' h1, valB_numB]
  simp
theorem takeOf_num8 (n : Nat) (hn : n ≤ 18446744073709551615) (b : List UInt8) : takeOf (numB n 8 ++ b) 8 = (n, b, 0) := by
  have h := takeOf_num n 8 (by omega) b
  rw [show n % 256 ^ 8 = n from Nat.mod_eq_of_lt (by omega)] at h
  exact h
theorem unblobOf_blob (a b : List UInt8) (h : a.length ≤ 255) : unblobOf ((blobOf a).1 ++ b) = (a, b, 0) := by
  unfold blobOf
  rw [if_neg (by omega)]
  have e : numB a.length 1 = [UInt8.ofNat a.length] := by simp [numB, shr8, Nat.mod_eq_of_lt (show a.length < 256 by omega)]
  rw [e]
  have e2 : [UInt8.ofNat a.length] ++ a ++ b = UInt8.ofNat a.length :: (a ++ b) := rfl
  rw [e2]
  unfold unblobOf
  have h2 : (UInt8.ofNat a.length).toNat = a.length := by rw [UInt8.toNat_ofNat']; omega
  simp only [h2]
  rw [if_neg (by simp), List.take_left, List.drop_left]

set_option maxHeartbeats 1600000 in
theorem back_walk (n : Nat) (hn : n ≤ 18446744073709551615) (a b : List UInt8) (ha : a.length ≤ maxLen) (hb : b.length ≤ maxLen) (x : Int) (w : World) :
    Calls Try.prog 3 #[.int .u64 n, .agg #[.string (str a), .string (str b)], .int .i64 x] w fun e w' => e = .returned (.bool true) ∧ Below w.heap.size w w' := by
  unfold maxLen at ha hb
  have HB := Lib.hid (Below.refl w.heap.size w)
  by_cases h1 : 255 < a.length
  · go_enter Try.func3, Try.ntmps3
    replace HB := Lib.hid (HB.out.alloc (Nat.le_refl _) (.cells #[.string (str a), .string (str b)] 23))
    go_wp2_with (go_at_call 6; refine (awake_any _).mono ?_; rintro e w5 ⟨rfl, hb5⟩; replace HB := Lib.hid (below_step HB.out hb5))
    go_ret
    exact ⟨rfl, HB.out⟩
  by_cases h2 : 600 < b.length
  · go_enter Try.func3, Try.ntmps3
    replace HB := Lib.hid (HB.out.alloc (Nat.le_refl _) (.cells #[.string (str a), .string (str b)] 23))
    go_wp2_with (go_at_call 6; refine (awake_any _).mono ?_; rintro e w5 ⟨rfl, hb5⟩; replace HB := Lib.hid (below_step HB.out hb5))
    go_ret
    exact ⟨rfl, HB.out⟩
  obtain ⟨k, hk, hkl⟩ := at_of x 9 (by omega) (by omega)
  rw [show ((9 : Nat) : Int) = 9 from rfl] at hk
  have Hk := Lib.hid hk
  clear hk
  have eu := unblobOf_blob a b (by omega)
  have eb : blobOf a = ((blobOf a).1, 0) := by unfold blobOf; rw [if_neg h1]
  have hB : (blobOf a).1.length ≤ 256 := by unfold blobOf; rw [if_neg h1]; simp [numB_length]; omega
  generalize (blobOf a).1 = B at *
  by_cases h8 : k < 8
  · have et := takeOf_num n k (by omega) b
    have Hl := Lib.hid (low_eq n k hn h8)
    go_enter Try.func3, Try.ntmps3
    go_upto_region 4 with (fail)
    simp only [Hk.out]
    go_upto_region 7 with (fail)
    rw [Hl.out]
    clear Hl
    generalize n % 256 ^ k = m at *
    have hnk := numB_length n k
    have hsum : ¬ 9223372036854775807 < (numB n k).length + b.length := by omega
    clear hnk
    have HB' := Lib.hid (HB.out.alloc (Nat.le_refl _) (.cells #[.string (str a), .string (str b)] 23))
    go_region_held3 (fun w' => w.heap.size < w'.heap.size ∧ w'.cell? ⟨w.heap.size, 0, none⟩ = some (.string (str a)) ∧ w'.cell? ⟨w.heap.size, 1, none⟩ = some (.string (str b)))
      (first | exact pair_keep hb2 ‹_› | exact pair_keep hb1 ‹_› | (simp [go_sem]))
      (first
      | (go_at_call 8; refine (num_at n hn k k (by omega) (.inl rfl) _).mono ?_; rintro e w1 ⟨rfl, hb1⟩)
      | (go_at_call 7; refine (take_any (numB n k ++ b) k (by simp [numB_length, maxLen]; omega) _).mono ?_; rintro e w2 ⟨rfl, hb2⟩))
    have K2 : w.heap.size < w2.heap.size ∧ w2.cell? ⟨w.heap.size, 0, none⟩ = some (.string (str a)) ∧ w2.cell? ⟨w.heap.size, 1, none⟩ = some (.string (str b)) := by assumption
    replace HB := Lib.hid (below_step ((below_step HB'.out.drew hb1)) hb2)
    clear HB' hb1 hb2 hsum
    go_wp2_with (first
      | (go_at_call 9; refine (blob_any a (by simp only [maxLen]; omega) _).mono ?_; rintro e w3 ⟨rfl, hb3⟩; replace HB := Lib.hid (below_step HB.out hb3); have K3 := pair_keep hb3 K2; clear hb3)
      | (go_at_call 10; refine (unblob_any (B ++ b) (by simp only [maxLen, List.length_append]; omega) _).mono ?_; rintro e w4 ⟨rfl, hb4⟩; replace HB := Lib.hid (below_step HB.out hb4); have K4 := pair_keep hb4 K3; clear hb4)
      | (go_at_call 6; refine (awake_any _).mono ?_; rintro e w5 ⟨rfl, hb5⟩; replace HB := Lib.hid (below_step HB.out hb5)))
    go_ret
    exact ⟨rfl, HB.out⟩
  · obtain rfl : k = 8 := by omega
    have et := takeOf_num8 n hn b
    go_enter Try.func3, Try.ntmps3
    go_upto_region 4 with (fail)
    simp only [Hk.out]
    go_upto_region 7 with (fail)
    have hnk := numB_length n 8
    have hsum : ¬ 9223372036854775807 < (numB n 8).length + b.length := by omega
    clear hnk
    have HB' := Lib.hid (HB.out.alloc (Nat.le_refl _) (.cells #[.string (str a), .string (str b)] 23))
    go_region_held3 (fun w' => w.heap.size < w'.heap.size ∧ w'.cell? ⟨w.heap.size, 0, none⟩ = some (.string (str a)) ∧ w'.cell? ⟨w.heap.size, 1, none⟩ = some (.string (str b)))
      (first | exact pair_keep hb2 ‹_› | exact pair_keep hb1 ‹_› | (simp [go_sem]))
      (first
      | (go_at_call 8; refine (num_at n hn 8 8 (by omega) (.inl rfl) _).mono ?_; rintro e w1 ⟨rfl, hb1⟩)
      | (go_at_call 7; refine (take_any (numB n 8 ++ b) 8 (by simp [numB_length, maxLen]; omega) _).mono ?_; rintro e w2 ⟨rfl, hb2⟩))
    have K2 : w.heap.size < w2.heap.size ∧ w2.cell? ⟨w.heap.size, 0, none⟩ = some (.string (str a)) ∧ w2.cell? ⟨w.heap.size, 1, none⟩ = some (.string (str b)) := by assumption
    replace HB := Lib.hid (below_step ((below_step HB'.out.drew hb1)) hb2)
    clear HB' hb1 hb2 hsum
    go_wp2_with (first
      | (go_at_call 9; refine (blob_any a (by simp only [maxLen]; omega) _).mono ?_; rintro e w3 ⟨rfl, hb3⟩; replace HB := Lib.hid (below_step HB.out hb3); have K3 := pair_keep hb3 K2; clear hb3)
      | (go_at_call 10; refine (unblob_any (B ++ b) (by simp only [maxLen, List.length_append]; omega) _).mono ?_; rintro e w4 ⟨rfl, hb4⟩; replace HB := Lib.hid (below_step HB.out hb4); have K4 := pair_keep hb4 K3; clear hb4)
      | (go_at_call 6; refine (awake_any _).mono ?_; rintro e w5 ⟨rfl, hb5⟩; replace HB := Lib.hid (below_step HB.out hb5)))
    go_ret
    exact ⟨rfl, HB.out⟩
end Go.Proofs.Ytnkpilgacnpdiaa

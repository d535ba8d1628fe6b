/- The contracts of pack's Take, Rest, Blob, Unblob and Flip, for every input. -/
import Derived.Test.YtkcdeefnkbbacaaBytes
import Derived.Deep.QuietTactic
import Derived.BigQuiet
set_option maxRecDepth 100000
namespace Go.Proofs.Ytkcdeefnkbbacaa
open Go.RowKit

theorem valB_snoc (acc : Nat) (l : List UInt8) (x : UInt8) : valB acc (l ++ [x]) = valB acc l * 256 + x.toNat := by simp [valB]
theorem valB_lt (acc : Nat) (l : List UInt8) : valB acc l < (acc + 1) * 256 ^ l.length := by
  induction l generalizing acc with
  | nil => simp [valB]
  | cons x l ih =>
    have h := ih (acc * 256 + x.toNat)
    have hx := x.toNat_lt
    have e : valB acc (x :: l) = valB (acc * 256 + x.toNat) l := rfl
    rw [e]
    refine Nat.lt_of_lt_of_le h ?_
    rw [List.length_cons, Nat.pow_succ, Nat.mul_comm (256 ^ l.length), ← Nat.mul_assoc]
    exact Nat.mul_le_mul_right _ (by omega)
theorem pow_le8 {k : Nat} (h : k ≤ 8) : 256 ^ k ≤ 18446744073709551616 := by
  have : 256 ^ k ≤ 256 ^ 8 := Nat.pow_le_pow_right (by omega) h
  simpa using this
theorem valB_le (l : List UInt8) (h : l.length ≤ 8) : valB 0 l ≤ 18446744073709551615 := by
  have h1 := valB_lt 0 l
  have h2 := pow_le8 h
  omega
theorem or_byte (n : Nat) (x : UInt8) (h : n * 256 + x.toNat ≤ 18446744073709551615) : bits .or .u64 ((n : Int) * 256) (x.toNat : Int) = ((n * 256 + x.toNat : Nat) : Int) := by
  have hx := x.toNat_lt
  have h1 := u64_or_nat (n * 256) x.toNat (by omega) (by omega)
  rw [show ((n * 256 : Nat) : Int) = (n : Int) * 256 from by omega] at h1
  rw [h1]
  have h2 : n * 256 ||| x.toNat = n * 256 + x.toNat := by
    have := Nat.shiftLeft_add_eq_or_of_lt (i := 8) (b := x.toNat) (by simpa using hx) n
    rw [Nat.shiftLeft_eq] at this
    exact this.symm
  rw [h2]

set_option maxHeartbeats 400000 in
theorem take_ok (l : List UInt8) (k : Nat) (hk : k ≤ 8) (hl : k ≤ l.length) (hm : l.length ≤ maxLen) (w : World) :
    Calls Try.prog 82 #[.string (str l), .int .i64 k] w fun e w' => e = .returned (.tuple #[.int .u64 (valB 0 (l.take k) : Nat), .string (str (l.drop k)), .int .i64 0]) ∧ Below w.heap.size w w' := by
  unfold maxLen at hm
  go_enter Try.func82, Try.ntmps82
  go_wp2
  go_loop [7, 8, 20] (fun n _ i => ∃ j : Nat, j ≤ k ∧ i = .int .i64 j ∧ n = .int .u64 (valB 0 (l.take j) : Nat)) (fun _ _ i => k - (intOf i).toNat)
  case atStart => exact ⟨0, by omega, rfl, rfl⟩
  case round =>
    obtain ⟨j, hj, rfl, rfl⟩ := hrel
    by_cases hlt : j < k
    · have hb := valB_le (l.take (j + 1)) (by simp; omega)
      rw [take_snoc l j (by omega), valB_snoc] at hb
      have ho := or_byte (valB 0 (l.take j)) (l[j]'(by omega)) hb
      have hsn := valB_snoc 0 (l.take j) (l[j]'(by omega))
      rw [← take_snoc l j (by omega)] at hsn
      have Hsn := Lib.hid hsn
      clear hsn
      have hjl : j < l.length := by omega
      generalize valB 0 (l.take j) = n at *
      go_wp2
      go_round
      case rel => exact ⟨j + 1, by omega, by go_num, by rw [Hsn.out]; rfl⟩
      case measure => simp [intOf]; omega
    · obtain rfl : j = k := by omega
      have q1 : (0 : Int) ≤ (j : Int) := by omega
      have q2 : (j : Int) ≤ (l.length : Int) := by omega
      go_wp2
      go_quiet (fail)
      go_wp2
      go_ret3
      exact ⟨rfl, below_drewN (Below.refl _ _) _⟩

/-- what Take answers: the number, what follows, the error -/
def takeOf (l : List UInt8) (k : Int) : Nat × List UInt8 × Int :=
  if k < 0 ∨ 8 < k then (0, [], 1) else if (l.length : Int) < k then (0, [], 2) else (valB 0 (l.take k.toNat), l.drop k.toNat, 0)
set_option maxHeartbeats 400000 in
theorem take_any (l : List UInt8) (k : Int) (hm : l.length ≤ maxLen) (w : World) :
    Calls Try.prog 82 #[.string (str l), .int .i64 k] w fun e w' => e = .returned (.tuple #[.int .u64 ((takeOf l k).1 : Nat), .string (str (takeOf l k).2.1), .int .i64 (takeOf l k).2.2]) ∧ Below w.heap.size w w' := by
  by_cases h1 : k < 0
  · have e : takeOf l k = (0, [], 1) := by unfold takeOf; rw [if_pos (.inl h1)]
    rw [e]; clear e
    go_enter Try.func82, Try.ntmps82
    go_wp2
    go_ret3
    exact ⟨rfl, Below.refl _ _⟩
  by_cases h2 : 8 < k
  · have e : takeOf l k = (0, [], 1) := by unfold takeOf; rw [if_pos (.inr h2)]
    rw [e]; clear e
    go_enter Try.func82, Try.ntmps82
    go_wp2
    go_ret3
    exact ⟨rfl, Below.refl _ _⟩
  by_cases h3 : (l.length : Int) < k
  · have e : takeOf l k = (0, [], 2) := by unfold takeOf; rw [if_neg (by omega), if_pos h3]
    rw [e]; clear e
    unfold maxLen at hm
    go_enter Try.func82, Try.ntmps82
    go_wp2
    go_ret3
    exact ⟨rfl, Below.refl _ _⟩
  · obtain ⟨n, rfl⟩ := Int.eq_ofNat_of_zero_le (by omega : 0 ≤ k)
    have e : takeOf l (n : Int) = (valB 0 (l.take n), l.drop n, 0) := by unfold takeOf; rw [if_neg (by omega), if_neg h3]; rfl
    rw [e]
    exact take_ok l n (by omega) (by omega) hm w

set_option maxHeartbeats 400000 in
theorem rest_any (l : List UInt8) (hm : l.length ≤ maxLen) (w : World) :
    Calls Try.prog 84 #[.string (str l)] w fun e w' => e = .returned (.int .i64 (if l = [] then 0 else 3)) ∧ Below w.heap.size w w' := by
  unfold maxLen at hm
  cases l with
  | nil =>
    go_enter Try.func84, Try.ntmps84
    go_wp2
    go_ret
    exact ⟨rfl, Below.refl _ _⟩
  | cons x l =>
    go_enter Try.func84, Try.ntmps84
    go_wp2
    go_ret
    exact ⟨rfl, Below.refl _ _⟩

/-- a text with its length ahead of it -/
def blobOf (l : List UInt8) : List UInt8 × Int := if 255 < l.length then ([], 4) else (numB l.length 1 ++ l, 0)
set_option maxHeartbeats 400000 in
theorem blob_any (l : List UInt8) (hm : l.length ≤ maxLen) (w : World) :
    Calls Try.prog 111 #[.string (str l)] w fun e w' => e = .returned (.tuple #[.string (str (blobOf l).1), .int .i64 (blobOf l).2]) ∧ Below w.heap.size w w' := by
  unfold maxLen at hm
  by_cases h1 : 255 < l.length
  · have e : blobOf l = ([], 4) := by unfold blobOf; rw [if_pos h1]
    rw [e]; clear e
    go_enter Try.func111, Try.ntmps111
    go_wp2_with fail
    go_ret2
    exact ⟨rfl, Below.refl _ _⟩
  · have e : blobOf l = (numB l.length 1 ++ l, 0) := by unfold blobOf; rw [if_neg h1]
    rw [e]; clear e
    have hn := numB_length l.length 1
    have hn' : (numB l.length 1).length ≤ 1 := by omega
    clear hn
    go_enter Try.func111, Try.ntmps111
    go_wp2_with (go_at_call 100; refine (num_int _ (by omega) (by omega) 1 1 rfl (by omega) _).mono ?_; rintro e w2 ⟨rfl, hb2⟩)
    go_ret2
    exact ⟨rfl, hb2⟩

/-- what Unblob answers: the text, what follows, the error -/
def unblobOf : List UInt8 → List UInt8 × List UInt8 × Int
  | [] => ([], [], 2)
  | x :: r => if r.length < x.toNat then ([], [], 2) else (r.take x.toNat, r.drop x.toNat, 0)
theorem takeOf_one (x : UInt8) (r : List UInt8) : takeOf (x :: r) 1 = (x.toNat, r, 0) := by
  unfold takeOf
  rw [if_neg (by omega), if_neg (by simp; omega)]
  simp [valB]
theorem takeOf_nil : takeOf [] 1 = (0, [], 2) := by decide
set_option maxHeartbeats 400000 in
theorem unblob_any (l : List UInt8) (hm : l.length ≤ maxLen) (w : World) :
    Calls Try.prog 112 #[.string (str l)] w fun e w' => e = .returned (.tuple #[.string (str (unblobOf l).1), .string (str (unblobOf l).2.1), .int .i64 (unblobOf l).2.2]) ∧ Below w.heap.size w w' := by
  cases l with
  | nil =>
    have e1 := takeOf_nil
    go_enter Try.func112, Try.ntmps112
    go_wp2_with (go_at_call 82; refine (take_any _ 1 hm _).mono ?_; rintro e w2 ⟨rfl, hb2⟩)
    go_ret3
    exact ⟨rfl, hb2⟩
  | cons x r =>
    have e1 := takeOf_one x r
    have hx := x.toNat_lt
    have hr : r.length ≤ 9223372036854775807 := by unfold maxLen at hm; simp at hm; omega
    by_cases h1 : r.length < x.toNat
    · have e : unblobOf (x :: r) = ([], [], 2) := by show (if r.length < x.toNat then _ else _) = _; rw [if_pos h1]
      rw [e]; clear e
      go_enter Try.func112, Try.ntmps112
      go_wp2_with (go_at_call 82; refine (take_any _ 1 hm _).mono ?_; rintro e w2 ⟨rfl, hb2⟩)
      go_ret3
      exact ⟨rfl, hb2⟩
    · have e : unblobOf (x :: r) = (r.take x.toNat, r.drop x.toNat, 0) := by show (if r.length < x.toNat then _ else _) = _; rw [if_neg h1]
      rw [e]; clear e
      have q1 : (0 : Int) ≤ (x.toNat : Int) := by omega
      have q2 : (x.toNat : Int) ≤ (r.length : Int) := by omega
      go_enter Try.func112, Try.ntmps112
      go_wp2_with (go_at_call 82; refine (take_any _ 1 hm _).mono ?_; rintro e w2 ⟨rfl, hb2⟩)
      go_quiet (fail)
      go_wp2
      go_ret3
      exact ⟨rfl, below_drewN hb2 _⟩

end Go.Proofs.Ytkcdeefnkbbacaa

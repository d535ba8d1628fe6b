/- Numbers and pairs of bytes, in plain Lean: what is written is read, and what is read is written so. -/
import Derived.Test.YtkcdeefnkbbacaaPairRs
set_option maxRecDepth 100000
namespace Go.Proofs.Ytkcdeefnkbbacaa
open Go.RowKit

theorem valB_ge (acc : Nat) (l : List UInt8) : acc * 256 ^ l.length ≤ valB acc l := by
  induction l generalizing acc with
  | nil => simp [valB]
  | cons x l ih =>
    have h := ih (acc * 256 + x.toNat)
    have e : valB acc (x :: l) = valB (acc * 256 + x.toNat) l := rfl
    rw [e]
    refine Nat.le_trans ?_ h
    rw [List.length_cons, Nat.pow_succ, Nat.mul_comm (256 ^ l.length), ← Nat.mul_assoc]
    exact Nat.mul_le_mul_right _ (by omega)
theorem shr8_valB (acc : Nat) (l : List UInt8) : shr8 (valB acc l) l.length = acc := by
  have h1 := valB_ge acc l
  have h2 := valB_lt acc l
  unfold shr8
  exact Nat.div_eq_of_lt_le h1 h2
theorem numB_valB (acc : Nat) (l : List UInt8) : numB (valB acc l) l.length = l := by
  induction l generalizing acc with
  | nil => rfl
  | cons x l ih =>
    have e : valB acc (x :: l) = valB (acc * 256 + x.toNat) l := rfl
    have hx := x.toNat_lt
    rw [e, List.length_cons]
    show UInt8.ofNat (shr8 (valB (acc * 256 + x.toNat) l) l.length % 256) :: numB (valB (acc * 256 + x.toNat) l) l.length = x :: l
    rw [ih, shr8_valB]
    have h2 : (acc * 256 + x.toNat) % 256 = x.toNat := by omega
    rw [h2, UInt8.ofNat_toNat]

theorem valB_four (n : Nat) (h : n ≤ 4294967295) : valB 0 (numB n 4) = n := by
  rw [valB_numB]
  have : (256 : Nat) ^ 4 = 4294967296 := by decide
  rw [this]
  omega
theorem pairB_assoc (a b c d : Nat) : pairB a b c d = numB a 4 ++ (numB b 4 ++ (numB c 4 ++ numB d 4)) := by simp [pairB]
theorem quad_pairB0 (a b c d : Nat) (h : a ≤ 4294967295) : quad (pairB a b c d) 0 = a := by
  show valB 0 ((List.drop 0 (pairB a b c d)).take 4) = a
  rw [pairB_assoc, List.drop_zero, List.take_left' (numB_length a 4), valB_four a h]
theorem quad_pairB1 (a b c d : Nat) (h : b ≤ 4294967295) : quad (pairB a b c d) 1 = b := by
  show valB 0 ((List.drop 4 (pairB a b c d)).take 4) = b
  rw [pairB_assoc, List.drop_left' (numB_length a 4), List.take_left' (numB_length b 4), valB_four b h]
theorem quad_pairB2 (a b c d : Nat) (h : c ≤ 4294967295) : quad (pairB a b c d) 2 = c := by
  show valB 0 ((List.drop (4 + 4) (pairB a b c d)).take 4) = c
  rw [pairB_assoc, ← List.drop_drop, List.drop_left' (numB_length a 4), List.drop_left' (numB_length b 4), List.take_left' (numB_length c 4), valB_four c h]
theorem quad_pairB3 (a b c d : Nat) (h : d ≤ 4294967295) : quad (pairB a b c d) 3 = d := by
  show valB 0 ((List.drop (4 + (4 + 4)) (pairB a b c d)).take 4) = d
  rw [pairB_assoc, ← List.drop_drop, ← List.drop_drop, List.drop_left' (numB_length a 4), List.drop_left' (numB_length b 4), List.drop_left' (numB_length c 4), List.take_of_length_le (by simp [numB_length]), valB_four d h]
theorem numB_quad (r : List UInt8) (k : Nat) (h : 4 * k + 4 ≤ r.length) : numB (quad r k) 4 = (r.drop (4 * k)).take 4 := by
  have hl : ((r.drop (4 * k)).take 4).length = 4 := by simp; omega
  have := numB_valB 0 ((r.drop (4 * k)).take 4)
  rw [hl] at this
  exact this
theorem pairB_quad (r : List UInt8) (h : r.length = 16) : pairB (quad r 0) (quad r 1) (quad r 2) (quad r 3) = r := by
  rw [pairB_assoc, numB_quad r 0 (by omega), numB_quad r 1 (by omega), numB_quad r 2 (by omega), numB_quad r 3 (by omega)]
  have e0 := List.take_append_drop 4 r
  have e1 := List.take_append_drop 4 (r.drop 4)
  have e2 := List.take_append_drop 4 (r.drop 8)
  have e3 : (r.drop 12).take 4 = r.drop 12 := List.take_of_length_le (by simp; omega)
  rw [List.drop_drop] at e1 e2
  show (r.drop 0).take 4 ++ ((r.drop 4).take 4 ++ ((r.drop 8).take 4 ++ (r.drop 12).take 4)) = r
  rw [List.drop_zero, e3]
  show r.take 4 ++ ((r.drop 4).take 4 ++ ((r.drop 8).take 4 ++ r.drop (8 + 4))) = r
  rw [e2]
  show r.take 4 ++ ((r.drop 4).take 4 ++ r.drop (4 + 4)) = r
  rw [e1, e0]
end Go.Proofs.Ytkcdeefnkbbacaa

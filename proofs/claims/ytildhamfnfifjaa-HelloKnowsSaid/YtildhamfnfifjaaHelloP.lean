/- What hello's bytes are, in plain Lean: what is written is read, and what is read is written so. -/
import Derived.Test.YtildhamfnfifjaaHelloRd
set_option maxRecDepth 100000
namespace Go.Proofs.Ytildhamfnfifjaa
open Go.RowKit

theorem valB_ge (acc : Nat) (l : List UInt8) : acc * 256 ^ l.length ≤ valB acc l := by
  induction l generalizing acc with
  | nil => simp [valB]
  | cons x l ih =>
    have h := ih (acc * 256 + x.toNat)
    have e : valB acc (x :: l) = valB (acc * 256 + x.toNat) l := rfl
    rw [e]
    refine Nat.le_trans ?_ h
    rw [List.length_cons, Nat.pow_succ, Nat.mul_comm (256 ^ l.length), ← Nat.mul_assoc]
    exact Nat.mul_le_mul_right _ (by omega)
theorem shr8_valB (acc : Nat) (l : List UInt8) : shr8 (valB acc l) l.length = acc := by
  have h1 := valB_ge acc l
  have h2 := valB_lt acc l
  unfold shr8
  exact Nat.div_eq_of_lt_le h1 h2
theorem numB_valB (acc : Nat) (l : List UInt8) : numB (valB acc l) l.length = l := by
  induction l generalizing acc with
  | nil => rfl
  | cons x l ih =>
    have e : valB acc (x :: l) = valB (acc * 256 + x.toNat) l := rfl
    have hx := x.toNat_lt
    rw [e, List.length_cons]
    show UInt8.ofNat (shr8 (valB (acc * 256 + x.toNat) l) l.length % 256) :: numB (valB (acc * 256 + x.toNat) l) l.length = x :: l
    rw [ih, shr8_valB]
    have h2 : (acc * 256 + x.toNat) % 256 = x.toNat := by omega
    rw [h2, UInt8.ofNat_toNat]

theorem valB_four (n : Nat) (h : n ≤ 4294967295) : valB 0 (numB n 4) = n := by
  rw [valB_numB]
  have : (256 : Nat) ^ 4 = 4294967296 := by decide
  rw [this]
  omega
theorem pairB_assoc (a b c d : Nat) : pairB a b c d = numB a 4 ++ (numB b 4 ++ (numB c 4 ++ numB d 4)) := by simp [pairB]
theorem quad_pairB0 (a b c d : Nat) (h : a ≤ 4294967295) : quad (pairB a b c d) 0 = a := by
  show valB 0 ((List.drop 0 (pairB a b c d)).take 4) = a
  rw [pairB_assoc, List.drop_zero, List.take_left' (numB_length a 4), valB_four a h]
theorem quad_pairB1 (a b c d : Nat) (h : b ≤ 4294967295) : quad (pairB a b c d) 1 = b := by
  show valB 0 ((List.drop 4 (pairB a b c d)).take 4) = b
  rw [pairB_assoc, List.drop_left' (numB_length a 4), List.take_left' (numB_length b 4), valB_four b h]
theorem quad_pairB2 (a b c d : Nat) (h : c ≤ 4294967295) : quad (pairB a b c d) 2 = c := by
  show valB 0 ((List.drop (4 + 4) (pairB a b c d)).take 4) = c
  rw [pairB_assoc, ← List.drop_drop, List.drop_left' (numB_length a 4), List.drop_left' (numB_length b 4), List.take_left' (numB_length c 4), valB_four c h]
theorem quad_pairB3 (a b c d : Nat) (h : d ≤ 4294967295) : quad (pairB a b c d) 3 = d := by
  show valB 0 ((List.drop (4 + (4 + 4)) (pairB a b c d)).take 4) = d
  rw [pairB_assoc, ← List.drop_drop, ← List.drop_drop, List.drop_left' (numB_length a 4), List.drop_left' (numB_length b 4), List.drop_left' (numB_length c 4), List.take_of_length_le (by simp [numB_length]), valB_four d h]
theorem numB_quad (r : List UInt8) (k : Nat) (h : 4 * k + 4 ≤ r.length) : numB (quad r k) 4 = (r.drop (4 * k)).take 4 := by
  have hl : ((r.drop (4 * k)).take 4).length = 4 := by simp; omega
  have := numB_valB 0 ((r.drop (4 * k)).take 4)
  rw [hl] at this
  exact this
theorem pairB_quad (r : List UInt8) (h : r.length = 16) : pairB (quad r 0) (quad r 1) (quad r 2) (quad r 3) = r := by
  rw [pairB_assoc, numB_quad r 0 (by omega), numB_quad r 1 (by omega), numB_quad r 2 (by omega), numB_quad r 3 (by omega)]
  have e0 := List.take_append_drop 4 r
  have e1 := List.take_append_drop 4 (r.drop 4)
  have e2 := List.take_append_drop 4 (r.drop 8)
  have e3 : (r.drop 12).take 4 = r.drop 12 := List.take_of_length_le (by simp; omega)
  rw [List.drop_drop] at e1 e2
  show (r.drop 0).take 4 ++ ((r.drop 4).take 4 ++ ((r.drop 8).take 4 ++ (r.drop 12).take 4)) = r
  rw [List.drop_zero, e3]
  show r.take 4 ++ ((r.drop 4).take 4 ++ ((r.drop 8).take 4 ++ r.drop (8 + 4))) = r
  rw [e2]
  show r.take 4 ++ ((r.drop 4).take 4 ++ r.drop (4 + 4)) = r
  rw [e1, e0]
theorem helloB_quad (y : UInt8) (r : List UInt8) (h : r.length = 16) : helloB y.toNat (quad r 0) (quad r 1) (quad r 2) (quad r 3) = y :: r := by
  unfold helloB
  rw [pairB_quad r h, UInt8.ofNat_toNat]
theorem helloV_pairB (x a b c d : Nat) (hx : x < 16) (ha : a ≤ 4294967295) (hb : b ≤ 4294967295) (hc : c ≤ 4294967295) (hd : d ≤ 4294967295) :
    helloV (UInt8.ofNat x) (pairB a b c d) = .agg #[.int .i64 x, .int .u32 a, .int .u32 b, .int .u32 c, .int .u32 d] := by
  have e : (UInt8.ofNat x).toNat = x := by rw [UInt8.toNat_ofNat']; omega
  unfold helloV
  rw [e, quad_pairB0 a b c d ha, quad_pairB1 a b c d hb, quad_pairB2 a b c d hc, quad_pairB3 a b c d hd]

/-- the hello's contract, the bytes known -/
theorem read_bytes (x a b c d : Nat) (ha : a ≤ 4294967295) (hb : b ≤ 4294967295) (hc : c ≤ 4294967295) (hd : d ≤ 4294967295) (h : rightB x a b = true) (w : World) :
    Calls Try.prog 17 #[.string (str (helloB x a b c d))] w
      fun e w' => e = .returned (.tuple #[.agg #[.int .i64 x, .int .u32 a, .int .u32 b, .int .u32 c, .int .u32 d], .int .i64 0]) ∧ Below w.heap.size w w' := by
  have hx : x < 16 := by simp [rightB, isNode] at h; omega
  have e : (UInt8.ofNat x).toNat = x := by rw [UInt8.toNat_ofNat']; omega
  have hl := pairB_length a b c d
  have := hello_ok (UInt8.ofNat x) (pairB a b c d) (by omega) (by omega) (by rw [e, quad_pairB0 a b c d ha, quad_pairB1 a b c d hb]; exact h) hl w
  rw [helloV_pairB x a b c d hx ha hb hc hd] at this
  exact this
/-- a text is a hello's, or it is told that it is none -/
theorem read_cases (l : List UInt8) (hl : l.length ≤ 1000) :
    (∃ (x a b c d : Nat), a ≤ 4294967295 ∧ b ≤ 4294967295 ∧ c ≤ 4294967295 ∧ d ≤ 4294967295 ∧ rightB x a b = true ∧ l = helloB x a b c d) ∨
    (∃ e : Int, (e = 2 ∨ e = 3) ∧ ∀ w, Calls Try.prog 17 #[.string (str l)] w fun o w' => o = .returned (.tuple #[noHello, .int .i64 e]) ∧ Below w.heap.size w w') := by
  by_cases h : l.length < 17
  · exact .inr ⟨2, .inl rfl, fun w => hello_short l h w⟩
  cases l with
  | nil => simp at h
  | cons y r =>
    simp at h hl
    cases hr : rightB y.toNat (quad r 0) (quad r 1) with
    | false => exact .inr ⟨3, .inr rfl, fun w => hello_wrong y r (by omega) (by omega) hr w⟩
    | true =>
      by_cases h16 : r.length = 16
      · exact .inl ⟨y.toNat, quad r 0, quad r 1, quad r 2, quad r 3, quad_le r 0, quad_le r 1, quad_le r 2, quad_le r 3, hr, (helloB_quad y r h16).symm⟩
      · exact .inr ⟨3, .inr rfl, fun w => hello_more y r (by omega) (by omega) hr (by omega) w⟩
end Go.Proofs.Ytildhamfnfifjaa

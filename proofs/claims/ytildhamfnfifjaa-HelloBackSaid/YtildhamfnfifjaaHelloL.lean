/- The law HelloBack, walked. -/
import Derived.Test.YtildhamfnfifjaaHelloA
set_option maxRecDepth 100000
namespace Go.Proofs.Ytildhamfnfifjaa
open Go.RowKit

set_option maxHeartbeats 1600000 in
theorem back_long (x : Int) (a b c d : Nat) (l : List UInt8) (hl : 300 < l.length) (hm : l.length ≤ maxLen) (w : World) :
    Calls Try.prog 4 #[.agg #[.int .i64 x, .int .u32 a, .int .u32 b, .int .u32 c, .int .u32 d], .string (str l)] w fun e w' => e = .returned (.bool true) ∧ Below w.heap.size w w' := by
  have HB := Lib.hid ((Below.refl w.heap.size w).alloc (Nat.le_refl _) (.cells #[.int .i64 x, .int .u32 a, .int .u32 b, .int .u32 c, .int .u32 d] 28))
  unfold maxLen at hm
  go_enter Try.func4, Try.ntmps4
  go_wp2_with (first
    | (go_at_call 14; refine (awake_any _).mono ?_; rintro e w9 ⟨rfl, hb9⟩; replace HB := Lib.hid (below_step HB.out hb9); clear hb9))
  go_ret
  exact ⟨rfl, HB.out⟩

set_option maxHeartbeats 1600000 in
theorem back_no_none (x : Int) (a b c d : Nat) (l : List UInt8) (hl : l.length ≤ 300) (hr : rightB x a b = false) (n : Int) (hne : n = 2 ∨ n = 3) (hn0 : ∀ w, Calls Try.prog 17 #[.string (str l)] w fun o w' => o = .returned (.tuple #[noHello, .int .i64 n]) ∧ Below w.heap.size w w') (w : World) :
    Calls Try.prog 4 #[.agg #[.int .i64 x, .int .u32 a, .int .u32 b, .int .u32 c, .int .u32 d], .string (str l)] w fun e w' => e = .returned (.bool true) ∧ Below w.heap.size w w' := by
  have HB := Lib.hid ((Below.refl w.heap.size w).alloc (Nat.le_refl _) (.cells #[.int .i64 x, .int .u32 a, .int .u32 b, .int .u32 c, .int .u32 d] 28))
  have hne0 : n ≠ 0 := by omega
  have hb0 : (n == 0) = false := by simp [hne0]
  have hn := Lib.hid hn0
  clear hn0 hne
  go_enter Try.func4, Try.ntmps4
  go_wp2_with (first
    | (go_at_call 14; refine (awake_any _).mono ?_; rintro e w9 ⟨rfl, hb9⟩; replace HB := Lib.hid (below_step HB.out hb9); clear hb9)
    | (go_at_call 15; refine (hello_no x a b c d hr _).mono ?_; rintro e w1 ⟨rfl, hb1⟩; replace HB := Lib.hid (below_step HB.out hb1); clear hb1)
    | (go_at_call 17; refine (hn.out _).mono ?_; rintro e w4 ⟨rfl, hb4⟩; unfold noHello; replace HB := Lib.hid (below_step HB.out hb4); clear hb4
       replace HB := Lib.hid (HB.out.alloc HB.out.size (.cells #[.int .i64 0, .int .u32 0, .int .u32 0, .int .u32 0, .int .u32 0] 28))))
  go_ret
  exact ⟨rfl, HB.out⟩

set_option maxHeartbeats 1600000 in
theorem back_no_some (x : Int) (a b c d : Nat) (hr : rightB x a b = false) (y p q r s : Nat) (hp : p ≤ 4294967295) (hq : q ≤ 4294967295) (hr' : r ≤ 4294967295) (hs : s ≤ 4294967295) (hy : rightB y p q = true) (w : World) :
    Calls Try.prog 4 #[.agg #[.int .i64 x, .int .u32 a, .int .u32 b, .int .u32 c, .int .u32 d], .string (str (helloB y p q r s))] w fun e w' => e = .returned (.bool true) ∧ Below w.heap.size w w' := by
  have HB := Lib.hid ((Below.refl w.heap.size w).alloc (Nat.le_refl _) (.cells #[.int .i64 x, .int .u32 a, .int .u32 b, .int .u32 c, .int .u32 d] 28))
  have K1 := Lib.hid (fun w => read_bytes y p q r s hp hq hr' hs hy w)
  have K3 := Lib.hid (fun w => hello_yes y p q r s hp hq hr' hs hy w)
  have hl : (helloB y p q r s).length = 17 := by simp [helloB, pairB_length]
  generalize helloB y p q r s = L at *
  go_enter Try.func4, Try.ntmps4
  go_wp2_with (first
    | (go_at_call 14; refine (awake_any _).mono ?_; rintro e w9 ⟨rfl, hb9⟩; replace HB := Lib.hid (below_step HB.out hb9); clear hb9)
    | (go_at_call 15; have _q := w5; clear _q; refine (K3.out _).mono ?_; rintro e w6 ⟨rfl, hb6⟩
       have R9 := Lib.hid ((RowIs.new w5 #[.int .i64 y, .int .u32 p, .int .u32 q, .int .u32 r, .int .u32 s] 28).keep hb6)
       replace HB := Lib.hid (below_step (HB.out.alloc HB.out.size (.cells #[.int .i64 y, .int .u32 p, .int .u32 q, .int .u32 r, .int .u32 s] 28)) hb6); clear hb6
       have c0 := R9.out.2.1 0 _ rfl; have c1 := R9.out.2.1 1 _ rfl; have c2 := R9.out.2.1 2 _ rfl; have c3 := R9.out.2.1 3 _ rfl; have c4 := R9.out.2.1 4 _ rfl)
    | (go_at_call 15; refine (hello_no x a b c d hr _).mono ?_; rintro e w1 ⟨rfl, hb1⟩; replace HB := Lib.hid (below_step HB.out hb1); clear hb1)
    | (go_at_call 17; refine (K1.out _).mono ?_; rintro e w5 ⟨rfl, hb5⟩; replace HB := Lib.hid (below_step HB.out hb5); clear hb5)
    | (go_at_call 19; refine (right_any y p q r s _).mono ?_; rintro e w7 ⟨rfl, hb7⟩; rw [hy]; replace HB := Lib.hid (below_step HB.out hb7); clear hb7))
  go_ret
  exact ⟨rfl, HB.out⟩

set_option maxHeartbeats 1600000 in
theorem back_yes_none (x : Nat) (a b c d : Nat) (ha : a ≤ 4294967295) (hb : b ≤ 4294967295) (hc : c ≤ 4294967295) (hd : d ≤ 4294967295) (l : List UInt8) (hl : l.length ≤ 300) (hr : rightB x a b = true) (n : Int) (hne : n = 2 ∨ n = 3) (hn0 : ∀ w, Calls Try.prog 17 #[.string (str l)] w fun o w' => o = .returned (.tuple #[noHello, .int .i64 n]) ∧ Below w.heap.size w w') (w : World) :
    Calls Try.prog 4 #[.agg #[.int .i64 x, .int .u32 a, .int .u32 b, .int .u32 c, .int .u32 d], .string (str l)] w fun e w' => e = .returned (.bool true) ∧ Below w.heap.size w w' := by
  have HB := Lib.hid ((Below.refl w.heap.size w).alloc (Nat.le_refl _) (.cells #[.int .i64 x, .int .u32 a, .int .u32 b, .int .u32 c, .int .u32 d] 28))
  have R2 := Lib.hid (RowIs.new w #[.int .i64 x, .int .u32 a, .int .u32 b, .int .u32 c, .int .u32 d] 28)
  have hne0 : n ≠ 0 := by omega
  have hb0 : (n == 0) = false := by simp [hne0]
  have hn := Lib.hid hn0
  clear hn0 hne
  have J1 := Lib.hid (fun w => read_bytes x a b c d ha hb hc hd hr w)
  have J3 := Lib.hid (fun w => hello_yes x a b c d ha hb hc hd hr w)
  generalize helloB x a b c d = M at *
  go_enter Try.func4, Try.ntmps4
  go_wp2_with (first
    | (go_at_call 14; refine (awake_any _).mono ?_; rintro e w9 ⟨rfl, hb9⟩; replace HB := Lib.hid (below_step HB.out hb9); clear hb9)
    | (go_at_call 15; refine (J3.out _).mono ?_; rintro e w1 ⟨rfl, hb1⟩; replace HB := Lib.hid (below_step HB.out hb1); replace R2 := Lib.hid (R2.out.keep hb1); clear hb1)
    | (go_at_call 17; have _q := w2; clear _q; refine (hn.out _).mono ?_; rintro e w4 ⟨rfl, hb4⟩; unfold noHello; replace HB := Lib.hid (below_step HB.out hb4); clear hb4
       replace HB := Lib.hid (HB.out.alloc HB.out.size (.cells #[.int .i64 0, .int .u32 0, .int .u32 0, .int .u32 0, .int .u32 0] 28)))
    | (go_at_call 17; refine (J1.out _).mono ?_; rintro e w2 ⟨rfl, hb2⟩; replace HB := Lib.hid (below_step HB.out hb2); replace R2 := Lib.hid (R2.out.keep hb2); clear hb2
       have g0 := R2.out.2.1 0 _ rfl; have g1 := R2.out.2.1 1 _ rfl; have g2 := R2.out.2.1 2 _ rfl; have g3 := R2.out.2.1 3 _ rfl; have g4 := R2.out.2.1 4 _ rfl; have gs := R2.out.1
       replace HB := Lib.hid (HB.out.alloc HB.out.size (.cells #[.int .i64 x, .int .u32 a, .int .u32 b, .int .u32 c, .int .u32 d] 28))))
  go_ret
  exact ⟨rfl, HB.out⟩

set_option maxHeartbeats 1600000 in
theorem back_yes_some (x : Nat) (a b c d : Nat) (ha : a ≤ 4294967295) (hb : b ≤ 4294967295) (hc : c ≤ 4294967295) (hd : d ≤ 4294967295) (hr : rightB x a b = true) (y p q r s : Nat) (hp : p ≤ 4294967295) (hq : q ≤ 4294967295) (hr' : r ≤ 4294967295) (hs : s ≤ 4294967295) (hy : rightB y p q = true) (w : World) :
    Calls Try.prog 4 #[.agg #[.int .i64 x, .int .u32 a, .int .u32 b, .int .u32 c, .int .u32 d], .string (str (helloB y p q r s))] w fun e w' => e = .returned (.bool true) ∧ Below w.heap.size w w' := by
  have HB := Lib.hid ((Below.refl w.heap.size w).alloc (Nat.le_refl _) (.cells #[.int .i64 x, .int .u32 a, .int .u32 b, .int .u32 c, .int .u32 d] 28))
  have R2 := Lib.hid (RowIs.new w #[.int .i64 x, .int .u32 a, .int .u32 b, .int .u32 c, .int .u32 d] 28)
  have K1 := Lib.hid (fun w => read_bytes y p q r s hp hq hr' hs hy w)
  have K3 := Lib.hid (fun w => hello_yes y p q r s hp hq hr' hs hy w)
  have hl : (helloB y p q r s).length = 17 := by simp [helloB, pairB_length]
  generalize helloB y p q r s = L at *
  have J1 := Lib.hid (fun w => read_bytes x a b c d ha hb hc hd hr w)
  have J3 := Lib.hid (fun w => hello_yes x a b c d ha hb hc hd hr w)
  generalize helloB x a b c d = M at *
  go_enter Try.func4, Try.ntmps4
  go_wp2_with (first
    | (go_at_call 14; refine (awake_any _).mono ?_; rintro e w9 ⟨rfl, hb9⟩; replace HB := Lib.hid (below_step HB.out hb9); clear hb9)
    | (go_at_call 15; have _q := w5; clear _q; refine (K3.out _).mono ?_; rintro e w6 ⟨rfl, hb6⟩
       have R9 := Lib.hid ((RowIs.new w5 #[.int .i64 y, .int .u32 p, .int .u32 q, .int .u32 r, .int .u32 s] 28).keep hb6)
       replace HB := Lib.hid (below_step (HB.out.alloc HB.out.size (.cells #[.int .i64 y, .int .u32 p, .int .u32 q, .int .u32 r, .int .u32 s] 28)) hb6); clear hb6
       have c0 := R9.out.2.1 0 _ rfl; have c1 := R9.out.2.1 1 _ rfl; have c2 := R9.out.2.1 2 _ rfl; have c3 := R9.out.2.1 3 _ rfl; have c4 := R9.out.2.1 4 _ rfl)
    | (go_at_call 15; refine (J3.out _).mono ?_; rintro e w1 ⟨rfl, hb1⟩; replace HB := Lib.hid (below_step HB.out hb1); replace R2 := Lib.hid (R2.out.keep hb1); clear hb1)
    | (go_at_call 17; have _q := w2; clear _q; refine (K1.out _).mono ?_; rintro e w5 ⟨rfl, hb5⟩; replace HB := Lib.hid (below_step HB.out hb5); clear hb5)
    | (go_at_call 17; refine (J1.out _).mono ?_; rintro e w2 ⟨rfl, hb2⟩; replace HB := Lib.hid (below_step HB.out hb2); replace R2 := Lib.hid (R2.out.keep hb2); clear hb2
       have g0 := R2.out.2.1 0 _ rfl; have g1 := R2.out.2.1 1 _ rfl; have g2 := R2.out.2.1 2 _ rfl; have g3 := R2.out.2.1 3 _ rfl; have g4 := R2.out.2.1 4 _ rfl; have gs := R2.out.1
       replace HB := Lib.hid (HB.out.alloc HB.out.size (.cells #[.int .i64 x, .int .u32 a, .int .u32 b, .int .u32 c, .int .u32 d] 28)))
    | (go_at_call 19; refine (right_any y p q r s _).mono ?_; rintro e w7 ⟨rfl, hb7⟩; rw [hy]; replace HB := Lib.hid (below_step HB.out hb7); clear hb7))
  go_ret
  exact ⟨rfl, HB.out⟩

end Go.Proofs.Ytildhamfnfifjaa

/- The law PackFlips, walked: flipped once a text is another one of as many bytes, flipped twice it is as it was. -/
import Derived.Test.YtnkpilgacnpdiaaAwake1
namespace Go.Proofs.Ytnkpilgacnpdiaa
open Go.RowKit

set_option maxHeartbeats 800000 in
theorem flips_walk (l : List UInt8) (hl : l.length ≤ maxLen) (x : Int) (hx : -9223372036854775808 ≤ x ∧ x ≤ 9223372036854775807) (w : World) :
    Calls Try.prog 4 #[.string (str l), .int .i64 x] w fun e w' => e = .returned (.bool true) ∧ Below w.heap.size w w' := by
  unfold maxLen at hl
  have HB := Lib.hid (Below.refl w.heap.size w)
  have h0 : x < 0 ∨ (([] : List UInt8).length : Int) ≤ x / 8 := by simp; omega
  have H0 := Lib.hid h0
  clear h0
  by_cases h1 : l.length = 0
  · have e0 : l = [] := List.eq_nil_of_length_eq_zero h1
    clear h1
    subst e0
    go_enter Try.func4, Try.ntmps4
    go_wp2_with (first
      | (go_at_call 11; refine (flip_no [] x H0.out hx.2 _).mono ?_; rintro e w1 ⟨rfl, hb1⟩; replace HB := Lib.hid (below_step HB.out hb1); clear hb1)
      | (go_at_call 6; refine (awake_any _).mono ?_; rintro e w1 ⟨rfl, hb1⟩; replace HB := Lib.hid (below_step HB.out hb1); clear hb1))
    go_ret
    exact ⟨rfl, HB.out⟩
  have h1' : 0 < l.length := by omega
  have h1b : ((l.length : Int) == 0) = false := beq_eq_false_iff_ne.2 (by omega)
  clear h1
  by_cases h2 : 600 < l.length
  · go_enter Try.func4, Try.ntmps4
    go_wp2_with (first
      | (go_at_call 11; refine (flip_no [] x H0.out hx.2 _).mono ?_; rintro e w1 ⟨rfl, hb1⟩; replace HB := Lib.hid (below_step HB.out hb1); clear hb1)
      | (go_at_call 6; refine (awake_any _).mono ?_; rintro e w1 ⟨rfl, hb1⟩; replace HB := Lib.hid (below_step HB.out hb1); clear hb1))
    go_ret
    exact ⟨rfl, HB.out⟩
  obtain ⟨b, hb, hbl⟩ := at_of x (8 * l.length) (by omega) (by omega)
  rw [show ((8 * l.length : Nat) : Int) = 8 * (l.length : Int) from by omega] at hb
  have Hb := Lib.hid hb
  clear hb
  obtain ⟨q, r, rfl, hr⟩ : ∃ q r, b = 8 * q + r ∧ r < 8 := ⟨b / 8, b % 8, by omega, by omega⟩
  have hq : q < l.length := by omega
  have hne : ¬ l.set q (flipB l[q] r) = l := by
    intro h
    have h3 : (l.set q (flipB l[q] r))[q]'(by simpa using hq) = l[q] := by simp only [h]
    rw [List.getElem_set_self] at h3
    exact flipB_ne _ hr h3
  have hback : (l.set q (flipB l[q] r)).set q (flipB ((l.set q (flipB l[q] r))[q]'(by simpa using hq)) r) = l := by
    rw [List.getElem_set_self, flipB_twice _ hr, List.set_set]
    exact List.set_getElem_self hq
  have C1 := Lib.hid (fun w => flip_ok l q r hq hr (by omega) w)
  have C2 := Lib.hid (fun w => flip_ok (l.set q (flipB l[q] r)) q r (by simpa using hq) hr (by simp; omega) w)
  rw [hback] at C2
  clear hback
  have hlen : (l.set q (flipB l[q] r)).length = l.length := by simp
  generalize l.set q (flipB l[q] r) = m at *
  generalize 8 * q + r = b at *
  have hne' : (m == l) = false := by simp [hne]
  clear hq hr
  go_enter Try.func4, Try.ntmps4
  go_wp2_with fail
  rw [Hb.out]
  refine (C1.out _).mono ?_
  rintro e w1 ⟨rfl, hb1⟩
  replace HB := Lib.hid (below_step HB.out hb1)
  clear hb1
  go_wp2_with (first
    | (go_at_call 11; refine (C2.out _).mono ?_; rintro e w1 ⟨rfl, hb1⟩; replace HB := Lib.hid (below_step HB.out hb1); clear hb1)
    | (go_at_call 6; refine (awake_any _).mono ?_; rintro e w1 ⟨rfl, hb1⟩; replace HB := Lib.hid (below_step HB.out hb1); clear hb1))
  go_ret
  exact ⟨rfl, HB.out⟩
end Go.Proofs.Ytnkpilgacnpdiaa

/- The laws of package check: awake. -/
import Derived.Test.YtemecgbiidjbmaaSeal
namespace Go.Proofs.Ytemecgbiidjbmaa
open Go.RowKit

theorem e_abc : numB (more 1 [97, 98, 99]).toNat 4 = [2, 77, 1, 39] := by decide
theorem e_empty : numB 1 4 = [0, 0, 0, 1] := by decide
theorem o_abc : opened [97, 98, 99, 2, 77, 1, 39] = ([97, 98, 99], 0) := by decide
theorem o_short : opened [97, 98, 99] = ([], 2) := by decide
theorem o_sum : opened [97, 98, 99, 100] = ([], 5) := by decide
theorem m_wp : more 1 [87, 105, 107, 105, 112, 101, 100, 105, 97] = 300286872 := by decide
theorem m_0 : more 1 [] = 1 := by decide
theorem m_w : more 1 [87, 105, 107, 105] = 64618901 := by decide
theorem m_p : more 64618901 [112, 101, 100, 105, 97] = 300286872 := by decide

set_option maxHeartbeats 800000 in
theorem awake_any (w : World) : Calls Try.prog 5 #[] w fun e w' => e = .returned (.bool true) ∧ Below w.heap.size w w' := by
  have HB := Lib.hid (Below.refl w.heap.size w)
  have e1 := e_abc
  have e2 := e_empty
  have e3 := o_abc
  have e4 := o_short
  have e5 := o_sum
  have e6 := m_wp
  have e7 := m_0
  have e8 := m_w
  have e9 := m_p
  go_enter Try.func5, Try.ntmps5
  go_wp2_with (first
    | (go_at_call 7; refine (seal_any _ (by simp) _).mono ?_; rintro e w1 ⟨rfl, hb1⟩; replace HB := Lib.hid (below_step HB.out hb1); clear hb1)
    | (go_at_call 6; refine (open_any _ (by simp) _).mono ?_; rintro e w1 ⟨rfl, hb1⟩; replace HB := Lib.hid (below_step HB.out hb1); clear hb1)
    | (go_at_call 9; refine (sum_any _ (by simp [maxLen]) _).mono ?_; rintro e w1 ⟨rfl, hb1⟩; replace HB := Lib.hid (below_step HB.out hb1); clear hb1)
    | (go_at_call 8; refine (more_any _ (by omega) (by omega) _ (by simp [maxLen]) _).mono ?_; rintro e w1 ⟨rfl, hb1⟩; replace HB := Lib.hid (below_step HB.out hb1); clear hb1))
  go_ret
  exact ⟨rfl, HB.out⟩

/-! ### CheckParts: a sum goes on from part to part -/
theorem adTo_adOf {p : Int × Int} (h : adOk p) : adTo (adOf p) = p := by
  obtain ⟨h1, h2, h3, h4⟩ := h
  have e1 : (p.1 * 65536 + p.2) / 65536 % 65521 = p.1 := by omega
  have e2 : (p.1 * 65536 + p.2) % 65536 % 65521 = p.2 := by omega
  unfold adTo adOf
  rw [e1, e2]
theorem more_more (s : Int) (a b : List UInt8) : more (more s a) b = more s (a ++ b) := by
  show adOf (adL (adTo (adOf (adL (adTo s) a))) b) = adOf (adL (adTo s) (a ++ b))
  rw [adTo_adOf (adL_ok (adTo_ok s) a)]
  simp [adL]
theorem opened_sealed (l : List UInt8) : opened (l ++ numB (more 1 l).toNat 4) = (l, 0) := by
  have h := numB_length (more 1 l).toNat 4
  unfold opened
  rw [if_neg (by simp [h])]
  have e : (l ++ numB (more 1 l).toNat 4).length - 4 = l.length := by simp [h]
  rw [e, List.take_left, List.drop_left, if_pos rfl]

set_option maxHeartbeats 800000 in
theorem parts_walk (a b : List UInt8) (ha : a.length ≤ maxLen) (hb : b.length ≤ maxLen) (w : World) :
    Calls Try.prog 3 #[.string (str a), .string (str b)] w fun e w' => e = .returned (.bool true) ∧ Below w.heap.size w w' := by
  unfold maxLen at ha hb
  have HB := Lib.hid (Below.refl w.heap.size w)
  by_cases h1 : a.length ≤ 600
  · by_cases h2 : b.length ≤ 600
    · have e1 : opened (a ++ (b ++ numB (more 1 (a ++ b)).toNat 4)) = (a ++ b, 0) := by
        rw [← List.append_assoc]; exact opened_sealed (a ++ b)
      have e2 := more_more 1 a b
      go_enter Try.func3, Try.ntmps3
      go_wp2_with (first
        | (go_at_call 7; refine (seal_any _ (by simp; omega) _).mono ?_; rintro e w1 ⟨rfl, hb1⟩; replace HB := Lib.hid (below_step HB.out hb1); clear hb1)
        | (go_at_call 6; refine (open_any _ (by simp [numB_length]; omega) _).mono ?_; rintro e w1 ⟨rfl, hb1⟩; replace HB := Lib.hid (below_step HB.out hb1); clear hb1)
        | (go_at_call 9; refine (sum_any _ (by simp [maxLen]; omega) _).mono ?_; rintro e w1 ⟨rfl, hb1⟩; replace HB := Lib.hid (below_step HB.out hb1); clear hb1)
        | (go_at_call 8; refine (more_any _ (more_bd _ _).1 (more_bd _ _).2 _ (by simp [maxLen]; omega) _).mono ?_; rintro e w1 ⟨rfl, hb1⟩; replace HB := Lib.hid (below_step HB.out hb1); clear hb1)
        | (go_at_call 5; refine (awake_any _).mono ?_; rintro e w1 ⟨rfl, hb1⟩; replace HB := Lib.hid (below_step HB.out hb1); clear hb1))
      go_ret
      exact ⟨rfl, HB.out⟩
    · go_enter Try.func3, Try.ntmps3
      go_wp2_with (go_at_call 5; refine (awake_any _).mono ?_; rintro e w1 ⟨rfl, hb1⟩; replace HB := Lib.hid (below_step HB.out hb1); clear hb1)
      go_ret
      exact ⟨rfl, HB.out⟩
  · go_enter Try.func3, Try.ntmps3
    go_wp2_with (go_at_call 5; refine (awake_any _).mono ?_; rintro e w1 ⟨rfl, hb1⟩; replace HB := Lib.hid (below_step HB.out hb1); clear hb1)
    go_ret
    exact ⟨rfl, HB.out⟩
end Go.Proofs.Ytemecgbiidjbmaa

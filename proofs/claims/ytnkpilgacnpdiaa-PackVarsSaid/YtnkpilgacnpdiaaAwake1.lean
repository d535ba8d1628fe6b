/- Package fingerpostlaw01: awake. -/
import Derived.Test.YtnkpilgacnpdiaaPack
namespace Go.Proofs.Ytnkpilgacnpdiaa
open Go.RowKit

theorem a_num : numB 513 2 = [2, 1] := by decide
theorem a_take : takeOf [2, 1, 120] 2 = (513, [120], 0) := by decide
theorem a_blob : blobOf [97, 98] = ([2, 97, 98], 0) := by decide
theorem a_un : unblobOf [2, 97, 98, 99] = ([97, 98], [99], 0) := by decide
theorem a_un2 : unblobOf [3, 97, 98] = ([], [], 2) := by decide
theorem a_flip : ([0] : List UInt8).set 0 (flipB 0 0) = [128] := by decide

set_option maxHeartbeats 800000 in
theorem awake_any (w : World) : Calls Try.prog 6 #[] w fun e w' => e = .returned (.bool true) ∧ Below w.heap.size w w' := by
  have HB := Lib.hid (Below.refl w.heap.size w)
  have e1 := a_num
  have e2 := a_take
  have e3 := a_blob
  have e4 := a_un
  have e5 := a_un2
  have e6 := a_flip
  have hf := fun w => flip_ok [0] 0 0 (by decide) (by decide) (by decide) w
  have HF := Lib.hid hf
  clear hf
  go_enter Try.func6, Try.ntmps6
  go_wp2_with (first
    | (go_at_call 7; refine (take_any _ _ (by simp [maxLen]) _).mono ?_; rintro e w1 ⟨rfl, hb1⟩; replace HB := Lib.hid (below_step HB.out hb1); clear hb1)
    | (go_at_call 9; refine (blob_any _ (by simp [maxLen]) _).mono ?_; rintro e w1 ⟨rfl, hb1⟩; replace HB := Lib.hid (below_step HB.out hb1); clear hb1)
    | (go_at_call 10; refine (unblob_any _ (by simp [maxLen]) _).mono ?_; rintro e w1 ⟨rfl, hb1⟩; replace HB := Lib.hid (below_step HB.out hb1); clear hb1)
    | (go_at_call 8; refine (num_int 513 (by omega) (by omega) 2 2 rfl (by omega) _).mono ?_; rintro e w1 ⟨rfl, hb1⟩; replace HB := Lib.hid (below_step HB.out hb1); clear hb1)
    | (go_at_call 20; refine (rest_any _ (by simp [maxLen]) _).mono ?_; rintro e w1 ⟨rfl, hb1⟩; replace HB := Lib.hid (below_step HB.out hb1); clear hb1)
    | (go_at_call 11; refine (HF.out _).mono ?_; rintro e w1 ⟨rfl, hb1⟩; replace HB := Lib.hid (below_step HB.out hb1); clear hb1))
  go_ret
  exact ⟨rfl, HB.out⟩
end Go.Proofs.Ytnkpilgacnpdiaa

/- The law SerialEnds holds: for every integer the call returns true. No condition. -/
import Derived.Test.YtfkihagcgjombaaRows
import Derived.WalkKit
import Derived.WalkSpells
import Derived.WalkLawsBesides
import Derived.Test.YtfkihagcgjombaaLaw
namespace Go.Proofs.Ytfkihagcgjombaa
open Go.ChangeShapes Go.WideShapes Go.ChangeAt Go.RowKit

set_option maxHeartbeats 400000 in
theorem awake_any (w : World) : Calls Try.prog 6 #[] w fun e w' => e = .returned (.bool true) ∧ w = w' := by
  go_enter Try.func6, Try.ntmps6
  go_wp2
  go_ret
  exact ⟨rfl, rfl⟩

theorem small_of (n : Int) : ∃ m : Int, wrap64 ((IntKind.u64.wrap n).tmod 65536) = m ∧ 0 ≤ m ∧ m ≤ 65535 := by
  refine ⟨_, rfl, ?_⟩
  simp only [wrap64, IntKind.wrap, IntKind.signed, IntKind.bits]
  simp
  have h0 : 0 ≤ n % 18446744073709551616 := by omega
  rw [Int.tmod_eq_emod_of_nonneg h0]
  omega

set_option maxHeartbeats 400000 in
theorem ends_walk (n : Int) (w : World) :
    Calls Try.prog 3 #[.int .i64 n] w fun e w' => e = .returned (.bool true) ∧ w = w' := by
  obtain ⟨m, hm, h0, h1⟩ := small_of n
  have Hm : Hid (wrap64 ((IntKind.u64.wrap n).tmod 65536) = m) := hm
  clear hm
  by_cases hlt : m < 65000
  all_goals
    go_enter Try.func3, Try.ntmps3
    go_wp2_with fail
    rw [Hm.out]
    clear Hm
    go_wp2_with (first | (go_at_call 6; refine (awake_any _).mono ?_; rintro e w' ⟨rfl, rfl⟩) | go_in)
    go_ret
    exact ⟨rfl, rfl⟩

set_option maxRecDepth 100000 in
theorem ends_lifted (os : Os) (started : os.Started) (H : Type) (enc : TypeId × Value → H) :
    ReturnsInHanded {} Try.checked os 3 .any (Rows.serialEndsSpec.pre6 enc Try.prog Try.f3 Rows.serialEndsRow.domain false) (Rows.serialEndsSpec.post enc Try.prog Try.f3 false true false false) := by
  refine returnsInHanded_of_change (C := Try.checked) Try.own started (by kernel_rfl) Try.func3
    (ChangeSpec.witness6 (enc := enc) (C := Try.checked) false ⟨#[], #[.int .i64 0], []⟩ 8 (by kernel_rfl) (by kernel_rfl) (by kernel_rfl) (by kernel_rfl)) ?_
  intro W base args ds gs before hval0 hW hcnd _
  have hval : ∀ (j : Nat) t v, Try.f3.params[j]? = some t → args[j]? = some v → Value.okWide Try.prog W .any base t v := hval0
  have hW' := hW
  obtain ⟨p, q, hA0, hV, rfl, hfz, hnd⟩ := hW
  have hA : DataW.TrodAll enc Try.prog W 0 (fun _ => true) true Try.f3.params.toList args.toList ds p := hA0
  rw [Try.params3] at hA hval
  obtain ⟨v0, d0, rfl, rfl, h0⟩ := trodAll_one hA
  obtain ⟨rfl, rfl⟩ := trodVars_none hV
  obtain ⟨x, rfl, rfl, rfl, wx⟩ := open_int Try.underlying3 (hval 0 3 v0 rfl rfl) h0
  refine (ends_walk x W).mono fun e W' ⟨he, hw⟩ => ?_
  subst he; subst hw
  exact ⟨_, rfl, post_law Try.laidOut (by kernel_rfl) rfl (by kernel_rfl) Try.underlying4 hW' rfl (Below.refl _ _)⟩

theorem ends_holds : Rows.SerialEndsSaid :=
  OpenClaim.holds_of_wide 3 Try.f3 rfl rfl rfl rfl rfl rfl rfl ⟨rfl, rfl, rfl, rfl, rfl⟩ rfl rfl rfl rfl rfl (by kernel_rfl) Try.func3 (by kernel_rfl)
    (of_decide_eq_true (by kernel_rfl)) (by unfold Func.isWrapper; rw [if_neg (of_decide_eq_false (by kernel_rfl))]; exact ⟨rfl, rfl⟩)
    (fun os started H enc _ => ends_lifted os started H enc)
#print axioms ends_holds
end Go.Proofs.Ytfkihagcgjombaa

/- The law ShakeMeets holds: for every input the call returns true and each argument reads as it read. No condition. -/
import Derived.Test.YtmchbkmenokkdaaLaw
import Derived.Test.YtmchbkmenokkdaaS20b
namespace Go.Proofs.Ytmchbkmenokkdaa
open Go.ChangeShapes Go.WideShapes Go.ChangeAt Go.RowKit

set_option maxRecDepth 100000 in
theorem shakeMeets_lifted (os : Os) (started : os.Started) (H : Type) (enc : TypeId × Value → H) :
    ReturnsInHanded {} Try.checked os 9 .any (Rows.shakeMeetsSpec.pre6 enc Try.prog Try.f9 Rows.shakeMeetsRow.domain false) (Rows.shakeMeetsSpec.post enc Try.prog Try.f9 false true false false) := by
  refine returnsInHanded_of_change (C := Try.checked) Try.own started (by kernel_rfl) Try.func9
    (ChangeSpec.witness6 (enc := enc) (C := Try.checked) false ⟨#[], #[.agg #[.int .u32 0, .int .u32 0], .agg #[.int .u32 0, .int .u32 0]], []⟩ 8 (by kernel_rfl) (by kernel_rfl) (by kernel_rfl) (by kernel_rfl)) ?_
  intro W base args ds gs before hval0 hW hcnd _
  have hval : ∀ (j : Nat) t v, Try.f9.params[j]? = some t → args[j]? = some v → Value.okWide Try.prog W .any base t v := hval0
  have hW' := hW
  obtain ⟨p, q, hA0, hV, rfl, hfz, hnd⟩ := hW
  have hA : DataW.TrodAll enc Try.prog W 0 (fun _ => true) true Try.f9.params.toList args.toList ds p := hA0
  rw [Try.params9] at hA hval
  obtain ⟨v0, vs0, d0, ds0, p0, q0, hargs, rfl, rfl, h0, r0⟩ := trodAll_cons hA
  obtain ⟨v1, vs1, d1, ds1, p1, q1, rfl, rfl, rfl, h1, r1⟩ := trodAll_cons r0
  obtain ⟨rfl, rfl, rfl⟩ := trodAll_nil r1
  obtain rfl : args = #[v0, v1] := by cases args; simp_all
  obtain ⟨rfl, rfl⟩ := trodVars_none hV
  obtain ⟨cs0, ecs0, _⟩ := okWide_struct Try.underlying75 (hval 0 75 v0 rfl rfl)
  obtain ⟨av0, R0, H0_0⟩ := open_agg [.int .u32, .int .u32] ⟨cs0, ecs0⟩ h0 (by kernel_rfl)
  obtain ⟨a0_0, r0_0, rfl, G0_0, H0_1⟩ := H0_0.cons
  obtain ⟨x0_0, rfl, w0_0⟩ := G0_0.int_inv
  obtain ⟨a0_1, r0_1, rfl, G0_1, H0_2⟩ := H0_1.cons
  obtain ⟨x0_1, rfl, w0_1⟩ := G0_1.int_inv
  obtain rfl := H0_2.nil
  obtain ⟨cs1, ecs1, _⟩ := okWide_struct Try.underlying75 (hval 1 75 v1 rfl rfl)
  obtain ⟨av1, R1, H1_0⟩ := open_agg [.int .u32, .int .u32] ⟨cs1, ecs1⟩ h1 (by kernel_rfl)
  obtain ⟨a1_0, r1_0, rfl, G1_0, H1_1⟩ := H1_0.cons
  obtain ⟨x1_0, rfl, w1_0⟩ := G1_0.int_inv
  obtain ⟨a1_1, r1_1, rfl, G1_1, H1_2⟩ := H1_1.cons
  obtain ⟨x1_1, rfl, w1_1⟩ := G1_1.int_inv
  obtain rfl := H1_2.nil
  refine (row_of (shakeMeets_good x0_0 x0_1 x1_0 x1_1 ⟨(wf_u32 w0_0).1, (wf_u32 w0_1).1⟩ ⟨(wf_u32 w1_0).1, (wf_u32 w1_1).1, (wf_u32 w1_1).2⟩) (args_cons R0 (args_cons R1 args0))).mono fun e W' ⟨he, hw⟩ => ?_
  subst he
  exact ⟨_, rfl, post_law Try.laidOut (by kernel_rfl) rfl (by kernel_rfl) Try.underlying4 hW' rfl hw⟩

theorem shakemeets_holds : Rows.ShakeMeetsSaid :=
  OpenClaim.holds_of_wide 9 Try.f9 rfl rfl rfl rfl rfl rfl rfl ⟨rfl, rfl, rfl, rfl, rfl⟩ rfl rfl rfl rfl rfl (by kernel_rfl) Try.func9 (by kernel_rfl)
    (of_decide_eq_true (by kernel_rfl)) (by unfold Func.isWrapper; rw [if_neg (of_decide_eq_false (by kernel_rfl))]; exact ⟨rfl, rfl⟩)
    (fun os started H enc _ => shakeMeets_lifted os started H enc)
#print axioms shakemeets_holds
end Go.Proofs.Ytmchbkmenokkdaa

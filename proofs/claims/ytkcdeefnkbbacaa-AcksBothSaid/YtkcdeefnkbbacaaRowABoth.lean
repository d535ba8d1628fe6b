/- The law AcksBoth holds: for every input the call returns true and each argument reads as it read. No condition. -/
import Derived.Test.YtkcdeefnkbbacaaLaw
import Derived.Test.YtkcdeefnkbbacaaW09e
namespace Go.Proofs.Ytkcdeefnkbbacaa
open Go.ChangeShapes Go.WideShapes Go.ChangeAt Go.RowKit

set_option maxRecDepth 100000 in
theorem acksBoth_lifted (os : Os) (started : os.Started) (H : Type) (enc : TypeId × Value → H) :
    ReturnsInHanded {} Try.checked os 8 .any (Rows.acksBothSpec.pre6 enc Try.prog Try.f8 Rows.acksBothRow.domain false) (Rows.acksBothSpec.post enc Try.prog Try.f8 false true false false) := by
  refine returnsInHanded_of_change (C := Try.checked) Try.own started (by kernel_rfl) Try.func8
    (ChangeSpec.witness6 (enc := enc) (C := Try.checked) false ⟨#[], #[.agg #[.int .i64 0, .int .u32 0, .int .u32 0, .int .u32 0, .int .u32 0, .int .i64 0, .int .i64 0], .agg #[.int .i64 0, .int .u32 0, .int .u32 0, .int .u32 0, .int .u32 0, .int .i64 0, .int .i64 0]], []⟩ 8 (by kernel_rfl) (by kernel_rfl) (by kernel_rfl) (by kernel_rfl)) ?_
  intro W base args ds gs before hval0 hW hcnd _
  have hval : ∀ (j : Nat) t v, Try.f8.params[j]? = some t → args[j]? = some v → Value.okWide Try.prog W .any base t v := hval0
  have hW' := hW
  obtain ⟨p, q, hA0, hV, rfl, hfz, hnd⟩ := hW
  have hA : DataW.TrodAll enc Try.prog W 0 (fun _ => true) true Try.f8.params.toList args.toList ds p := hA0
  rw [Try.params8] at hA hval
  obtain ⟨v0, vs0, d0, ds0, p0, q0, hargs, rfl, rfl, h0, r0⟩ := trodAll_cons hA
  obtain ⟨v1, vs1, d1, ds1, p1, q1, rfl, rfl, rfl, h1, r1⟩ := trodAll_cons r0
  obtain ⟨rfl, rfl, rfl⟩ := trodAll_nil r1
  obtain rfl : args = #[v0, v1] := by cases args; simp_all
  obtain ⟨rfl, rfl⟩ := trodVars_none hV
  obtain ⟨cs0, ecs0, _⟩ := okWide_struct Try.underlying54 (hval 0 54 v0 rfl rfl)
  obtain ⟨av0, R0, H0_0⟩ := open_agg [.int .i64, .int .u32, .int .u32, .int .u32, .int .u32, .int .i64, .int .i64] ⟨cs0, ecs0⟩ h0 (by kernel_rfl)
  obtain ⟨a0_0, r0_0, rfl, G0_0, H0_1⟩ := H0_0.cons
  obtain ⟨x0_0, rfl, w0_0⟩ := G0_0.int_inv
  obtain ⟨a0_1, r0_1, rfl, G0_1, H0_2⟩ := H0_1.cons
  obtain ⟨x0_1, rfl, w0_1⟩ := G0_1.int_inv
  obtain ⟨a0_2, r0_2, rfl, G0_2, H0_3⟩ := H0_2.cons
  obtain ⟨x0_2, rfl, w0_2⟩ := G0_2.int_inv
  obtain ⟨a0_3, r0_3, rfl, G0_3, H0_4⟩ := H0_3.cons
  obtain ⟨x0_3, rfl, w0_3⟩ := G0_3.int_inv
  obtain ⟨a0_4, r0_4, rfl, G0_4, H0_5⟩ := H0_4.cons
  obtain ⟨x0_4, rfl, w0_4⟩ := G0_4.int_inv
  obtain ⟨a0_5, r0_5, rfl, G0_5, H0_6⟩ := H0_5.cons
  obtain ⟨x0_5, rfl, w0_5⟩ := G0_5.int_inv
  obtain ⟨a0_6, r0_6, rfl, G0_6, H0_7⟩ := H0_6.cons
  obtain ⟨x0_6, rfl, w0_6⟩ := G0_6.int_inv
  obtain rfl := H0_7.nil
  obtain ⟨cs1, ecs1, _⟩ := okWide_struct Try.underlying54 (hval 1 54 v1 rfl rfl)
  obtain ⟨av1, R1, H1_0⟩ := open_agg [.int .i64, .int .u32, .int .u32, .int .u32, .int .u32, .int .i64, .int .i64] ⟨cs1, ecs1⟩ h1 (by kernel_rfl)
  obtain ⟨a1_0, r1_0, rfl, G1_0, H1_1⟩ := H1_0.cons
  obtain ⟨x1_0, rfl, w1_0⟩ := G1_0.int_inv
  obtain ⟨a1_1, r1_1, rfl, G1_1, H1_2⟩ := H1_1.cons
  obtain ⟨x1_1, rfl, w1_1⟩ := G1_1.int_inv
  obtain ⟨a1_2, r1_2, rfl, G1_2, H1_3⟩ := H1_2.cons
  obtain ⟨x1_2, rfl, w1_2⟩ := G1_2.int_inv
  obtain ⟨a1_3, r1_3, rfl, G1_3, H1_4⟩ := H1_3.cons
  obtain ⟨x1_3, rfl, w1_3⟩ := G1_3.int_inv
  obtain ⟨a1_4, r1_4, rfl, G1_4, H1_5⟩ := H1_4.cons
  obtain ⟨x1_4, rfl, w1_4⟩ := G1_4.int_inv
  obtain ⟨a1_5, r1_5, rfl, G1_5, H1_6⟩ := H1_5.cons
  obtain ⟨x1_5, rfl, w1_5⟩ := G1_5.int_inv
  obtain ⟨a1_6, r1_6, rfl, G1_6, H1_7⟩ := H1_6.cons
  obtain ⟨x1_6, rfl, w1_6⟩ := G1_6.int_inv
  obtain rfl := H1_7.nil
  refine (row_of (acksBoth_good x0_0 x0_1 x0_2 x0_3 x0_4 x0_5 x0_6 x1_0 x1_1 x1_2 x1_3 x1_4 x1_5 x1_6) (args_cons R0 (args_cons R1 args0))).mono fun e W' ⟨he, hw⟩ => ?_
  subst he
  exact ⟨_, rfl, post_law Try.laidOut (by kernel_rfl) rfl (by kernel_rfl) Try.underlying4 hW' rfl hw⟩

theorem acksboth_holds : Rows.AcksBothSaid :=
  OpenClaim.holds_of_wide 8 Try.f8 rfl rfl rfl rfl rfl rfl rfl ⟨rfl, rfl, rfl, rfl, rfl⟩ rfl rfl rfl rfl rfl (by kernel_rfl) Try.func8 (by kernel_rfl)
    (of_decide_eq_true (by kernel_rfl)) (by unfold Func.isWrapper; rw [if_neg (of_decide_eq_false (by kernel_rfl))]; exact ⟨rfl, rfl⟩)
    (fun os started H enc _ => acksBoth_lifted os started H enc)
#print axioms acksboth_holds
end Go.Proofs.Ytkcdeefnkbbacaa


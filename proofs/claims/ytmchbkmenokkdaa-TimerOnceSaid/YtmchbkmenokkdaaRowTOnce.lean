/- The law TimerOnce holds: for every input the call returns true and each argument reads as it read. No condition. -/
import Derived.Test.YtmchbkmenokkdaaLaw
import Derived.Test.YtmchbkmenokkdaaS13d
namespace Go.Proofs.Ytmchbkmenokkdaa
open Go.ChangeShapes Go.WideShapes Go.ChangeAt Go.RowKit

set_option maxRecDepth 100000 in
theorem timerOnce_lifted (os : Os) (started : os.Started) (H : Type) (enc : TypeId × Value → H) :
    ReturnsInHanded {} Try.checked os 5 .any (Rows.timerOnceSpec.pre6 enc Try.prog Try.f5 Rows.timerOnceRow.domain false) (Rows.timerOnceSpec.post enc Try.prog Try.f5 false true false false) := by
  refine returnsInHanded_of_change (C := Try.checked) Try.own started (by kernel_rfl) Try.func5
    (ChangeSpec.witness6 (enc := enc) (C := Try.checked) false ⟨#[], #[.agg #[.int .i64 0, .int .i64 0, .int .i64 0], .int .i64 0], []⟩ 8 (by kernel_rfl) (by kernel_rfl) (by kernel_rfl) (by kernel_rfl)) ?_
  intro W base args ds gs before hval0 hW hcnd _
  have hval : ∀ (j : Nat) t v, Try.f5.params[j]? = some t → args[j]? = some v → Value.okWide Try.prog W .any base t v := hval0
  have hW' := hW
  obtain ⟨p, q, hA0, hV, rfl, hfz, hnd⟩ := hW
  have hA : DataW.TrodAll enc Try.prog W 0 (fun _ => true) true Try.f5.params.toList args.toList ds p := hA0
  rw [Try.params5] at hA hval
  obtain ⟨v0, vs0, d0, ds0, p0, q0, hargs, rfl, rfl, h0, r0⟩ := trodAll_cons hA
  obtain ⟨v1, vs1, d1, ds1, p1, q1, rfl, rfl, rfl, h1, r1⟩ := trodAll_cons r0
  obtain ⟨rfl, rfl, rfl⟩ := trodAll_nil r1
  obtain rfl : args = #[v0, v1] := by cases args; simp_all
  obtain ⟨rfl, rfl⟩ := trodVars_none hV
  obtain ⟨cs0, ecs0, _⟩ := okWide_struct Try.underlying48 (hval 0 48 v0 rfl rfl)
  obtain ⟨av0, R0, H0_0⟩ := open_agg [.int .i64, .int .i64, .int .i64] ⟨cs0, ecs0⟩ h0 (by kernel_rfl)
  obtain ⟨a0_0, r0_0, rfl, G0_0, H0_1⟩ := H0_0.cons
  obtain ⟨x0_0, rfl, w0_0⟩ := G0_0.int_inv
  obtain ⟨a0_1, r0_1, rfl, G0_1, H0_2⟩ := H0_1.cons
  obtain ⟨x0_1, rfl, w0_1⟩ := G0_1.int_inv
  obtain ⟨a0_2, r0_2, rfl, G0_2, H0_3⟩ := H0_2.cons
  obtain ⟨x0_2, rfl, w0_2⟩ := G0_2.int_inv
  obtain rfl := H0_3.nil
  obtain ⟨_, ev1⟩ := okWide_int Try.underlying3 (hval 1 3 v1 rfl rfl)
  obtain ⟨a1_0, R1, G1_0⟩ := open_leaf (.int .i64) (by rw [ev1]; nofun) h1 (by kernel_rfl)
  obtain ⟨x1_0, rfl, w1_0⟩ := G1_0.int_inv
  refine (row_of (timerOnce_good x0_0 x0_1 x0_2 x1_0) (args_cons R0 (args_cons R1 args0))).mono fun e W' ⟨he, hw⟩ => ?_
  subst he
  exact ⟨_, rfl, post_law Try.laidOut (by kernel_rfl) rfl (by kernel_rfl) Try.underlying4 hW' rfl hw⟩

theorem timeronce_holds : Rows.TimerOnceSaid :=
  OpenClaim.holds_of_wide 5 Try.f5 rfl rfl rfl rfl rfl rfl rfl ⟨rfl, rfl, rfl, rfl, rfl⟩ rfl rfl rfl rfl rfl (by kernel_rfl) Try.func5 (by kernel_rfl)
    (of_decide_eq_true (by kernel_rfl)) (by unfold Func.isWrapper; rw [if_neg (of_decide_eq_false (by kernel_rfl))]; exact ⟨rfl, rfl⟩)
    (fun os started H enc _ => timerOnce_lifted os started H enc)
#print axioms timeronce_holds
end Go.Proofs.Ytmchbkmenokkdaa


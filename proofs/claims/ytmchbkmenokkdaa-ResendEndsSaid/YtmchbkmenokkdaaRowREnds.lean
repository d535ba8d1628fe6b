/- The law ResendEnds holds: for every input the call returns true and each argument reads as it read. No condition. -/
import Derived.Test.YtmchbkmenokkdaaLaw
import Derived.Test.YtmchbkmenokkdaaS17
namespace Go.Proofs.Ytmchbkmenokkdaa
open Go.ChangeShapes Go.WideShapes Go.ChangeAt Go.RowKit

theorem okWide_arr {P : Program} {w : World} {r : Reach} {base : Nat} {t : TypeId} {v : Value} {n : Nat} {e : TypeId} (ht : P.underlying t = some (.array n e)) (h : Value.okWide P w r base t v) : ∃ cs, v = .agg cs ∧ cs.size = P.cellsOf t := by
  simp only [Value.okWide, ht] at h
  obtain ⟨cs, h1, h2, _⟩ := h
  exact ⟨cs, h1, h2⟩
set_option maxRecDepth 100000 in
theorem resendEnds_lifted (os : Os) (started : os.Started) (H : Type) (enc : TypeId × Value → H) :
    ReturnsInHanded {} Try.checked os 7 .any (Rows.resendEndsSpec.pre6 enc Try.prog Try.f7 Rows.resendEndsRow.domain false) (Rows.resendEndsSpec.post enc Try.prog Try.f7 false true false false) := by
  refine returnsInHanded_of_change (C := Try.checked) Try.own started (by kernel_rfl) Try.func7
    (ChangeSpec.witness6 (enc := enc) (C := Try.checked) false ⟨#[], #[.agg #[.int .i64 0, .int .i64 0, .int .i64 0]], []⟩ 8 (by kernel_rfl) (by kernel_rfl) (by kernel_rfl) (by kernel_rfl)) ?_
  intro W base args ds gs before hval0 hW hcnd _
  have hval : ∀ (j : Nat) t v, Try.f7.params[j]? = some t → args[j]? = some v → Value.okWide Try.prog W .any base t v := hval0
  have hW' := hW
  obtain ⟨p, q, hA0, hV, rfl, hfz, hnd⟩ := hW
  have hA : DataW.TrodAll enc Try.prog W 0 (fun _ => true) true Try.f7.params.toList args.toList ds p := hA0
  rw [Try.params7] at hA hval
  obtain ⟨v0, vs0, d0, ds0, p0, q0, hargs, rfl, rfl, h0, r0⟩ := trodAll_cons hA
  obtain ⟨rfl, rfl, rfl⟩ := trodAll_nil r0
  obtain rfl : args = #[v0] := by cases args; simp_all
  obtain ⟨rfl, rfl⟩ := trodVars_none hV
  obtain ⟨cs0, ecs0, _⟩ := okWide_arr Try.underlying37 (hval 0 37 v0 rfl rfl)
  obtain ⟨av0, R0, H0_0⟩ := open_agg [.int .i64, .int .i64, .int .i64] ⟨cs0, ecs0⟩ h0 (by kernel_rfl)
  obtain ⟨a0_0, r0_0, rfl, G0_0, H0_1⟩ := H0_0.cons
  obtain ⟨x0_0, rfl, w0_0⟩ := G0_0.int_inv
  obtain ⟨a0_1, r0_1, rfl, G0_1, H0_2⟩ := H0_1.cons
  obtain ⟨x0_1, rfl, w0_1⟩ := G0_1.int_inv
  obtain ⟨a0_2, r0_2, rfl, G0_2, H0_3⟩ := H0_2.cons
  obtain ⟨x0_2, rfl, w0_2⟩ := G0_2.int_inv
  obtain rfl := H0_3.nil
  refine (row_of (resendEnds_good x0_0 x0_1 x0_2) (args_cons R0 args0)).mono fun e W' ⟨he, hw⟩ => ?_
  subst he
  exact ⟨_, rfl, post_law Try.laidOut (by kernel_rfl) rfl (by kernel_rfl) Try.underlying4 hW' rfl hw⟩

theorem resendends_holds : Rows.ResendEndsSaid :=
  OpenClaim.holds_of_wide 7 Try.f7 rfl rfl rfl rfl rfl rfl rfl ⟨rfl, rfl, rfl, rfl, rfl⟩ rfl rfl rfl rfl rfl (by kernel_rfl) Try.func7 (by kernel_rfl)
    (of_decide_eq_true (by kernel_rfl)) (by unfold Func.isWrapper; rw [if_neg (of_decide_eq_false (by kernel_rfl))]; exact ⟨rfl, rfl⟩)
    (fun os started H enc _ => resendEnds_lifted os started H enc)
#print axioms resendends_holds
end Go.Proofs.Ytmchbkmenokkdaa


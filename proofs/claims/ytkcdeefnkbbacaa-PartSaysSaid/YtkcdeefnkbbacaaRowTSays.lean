/- The law PartSays holds: for every input the call returns true and each argument reads as it read. No condition. -/
import Derived.Test.YtkcdeefnkbbacaaLaw
import Derived.Test.YtkcdeefnkbbacaaW08e
namespace Go.Proofs.Ytkcdeefnkbbacaa
open Go.ChangeShapes Go.WideShapes Go.ChangeAt Go.RowKit

theorem itrows {xs : List (List AV)} (h : ∀ x ∈ xs, HasL [.int .i64, .int .i64, .int .u32, .int .i64] x) : ∃ l : List (Int × Int × Int × Int), xs = l.map it ∧ ∀ y ∈ l, ∃ n0 n1 n2 n3, y = (n0, n1, n2, n3) ∧ (-9223372036854775808 ≤ n0 ∧ n0 ≤ 9223372036854775807) ∧ (-9223372036854775808 ≤ n1 ∧ n1 ≤ 9223372036854775807) ∧ (0 ≤ n2 ∧ n2 ≤ 4294967295) ∧ (-9223372036854775808 ≤ n3 ∧ n3 ≤ 9223372036854775807) :=
  rows_of it fun x hx => by
    obtain ⟨a0, r0, rfl, G0, H0⟩ := (h x hx).cons
    obtain ⟨n0, rfl, w0⟩ := G0.int_inv
    obtain ⟨a1, r1, rfl, G1, H1⟩ := H0.cons
    obtain ⟨n1, rfl, w1⟩ := G1.int_inv
    obtain ⟨a2, r2, rfl, G2, H2⟩ := H1.cons
    obtain ⟨n2, rfl, w2⟩ := G2.int_inv
    obtain ⟨a3, r3, rfl, G3, H3⟩ := H2.cons
    obtain ⟨n3, rfl, w3⟩ := G3.int_inv
    obtain rfl := H3.nil
    exact ⟨(n0, n1, n2, n3), rfl, n0, n1, n2, n3, rfl, wf_i64 w0, wf_i64 w1, wf_u32 w2, wf_i64 w3⟩

set_option maxRecDepth 100000 in
theorem partSays_lifted (os : Os) (started : os.Started) (H : Type) (enc : TypeId × Value → H) :
    ReturnsInHanded {} Try.checked os 5 .any (Rows.partSaysSpec.pre6 enc Try.prog Try.f5 Rows.partSaysRow.domain false) (Rows.partSaysSpec.post enc Try.prog Try.f5 false true false false) := by
  refine returnsInHanded_of_change (C := Try.checked) Try.own started (by kernel_rfl) Try.func5
    (ChangeSpec.witness6 (enc := enc) (C := Try.checked) false ⟨#[], #[.agg #[.int .i64 0, .int .u32 0, .int .u32 0, .int .u32 0, .int .u32 0, .int .i64 0, .bool false, .slice none 0 0], .agg #[.int .i64 0, .int .u32 0, .int .u32 0, .int .u32 0, .int .u32 0, .int .i64 0, .bool false, .slice none 0 0], .string ⟨#[]⟩], []⟩ 8 (by kernel_rfl) (by kernel_rfl) (by kernel_rfl) (by kernel_rfl)) ?_
  intro W base args ds gs before hval0 hW hcnd _
  have hval : ∀ (j : Nat) t v, Try.f5.params[j]? = some t → args[j]? = some v → Value.okWide Try.prog W .any base t v := hval0
  have hW' := hW
  obtain ⟨p, q, hA0, hV, rfl, hfz, hnd⟩ := hW
  have hA : DataW.TrodAll enc Try.prog W 0 (fun _ => true) true Try.f5.params.toList args.toList ds p := hA0
  rw [Try.params5] at hA hval
  obtain ⟨v0, vs0, d0, ds0, p0, q0, hargs, rfl, rfl, h0, r0⟩ := trodAll_cons hA
  obtain ⟨v1, vs1, d1, ds1, p1, q1, rfl, rfl, rfl, h1, r1⟩ := trodAll_cons r0
  obtain ⟨v2, vs2, d2, ds2, p2, q2, rfl, rfl, rfl, h2, r2⟩ := trodAll_cons r1
  obtain ⟨rfl, rfl, rfl⟩ := trodAll_nil r2
  obtain rfl : args = #[v0, v1, v2] := by cases args; simp_all
  obtain ⟨rfl, rfl⟩ := trodVars_none hV
  obtain ⟨cs0, ecs0, _⟩ := okWide_struct Try.underlying44 (hval 0 44 v0 rfl rfl)
  obtain ⟨av0, R0, H0_0⟩ := open_agg [.int .i64, .int .u32, .int .u32, .int .u32, .int .u32, .int .i64, .bool, .sl [.int .i64, .int .i64, .int .u32, .int .i64]] ⟨cs0, ecs0⟩ h0 (by kernel_rfl)
  obtain ⟨a0_0, r0_0, rfl, G0_0, H0_1⟩ := H0_0.cons
  obtain ⟨x0_0, rfl, w0_0⟩ := G0_0.int_inv
  obtain ⟨a0_1, r0_1, rfl, G0_1, H0_2⟩ := H0_1.cons
  obtain ⟨x0_1, rfl, w0_1⟩ := G0_1.int_inv
  obtain ⟨a0_2, r0_2, rfl, G0_2, H0_3⟩ := H0_2.cons
  obtain ⟨x0_2, rfl, w0_2⟩ := G0_2.int_inv
  obtain ⟨a0_3, r0_3, rfl, G0_3, H0_4⟩ := H0_3.cons
  obtain ⟨x0_3, rfl, w0_3⟩ := G0_3.int_inv
  obtain ⟨a0_4, r0_4, rfl, G0_4, H0_5⟩ := H0_4.cons
  obtain ⟨x0_4, rfl, w0_4⟩ := G0_4.int_inv
  obtain ⟨a0_5, r0_5, rfl, G0_5, H0_6⟩ := H0_5.cons
  obtain ⟨x0_5, rfl, w0_5⟩ := G0_5.int_inv
  obtain ⟨a0_6, r0_6, rfl, G0_6, H0_7⟩ := H0_6.cons
  obtain ⟨x0_6, rfl⟩ := G0_6.bool_inv
  obtain ⟨a0_7, r0_7, rfl, G0_7, H0_8⟩ := H0_7.cons
  obtain ⟨x0_7, rfl, w0_7, m0_7⟩ := G0_7.sl_inv
  obtain rfl := H0_8.nil
  obtain ⟨cs1, ecs1, _⟩ := okWide_struct Try.underlying44 (hval 1 44 v1 rfl rfl)
  obtain ⟨av1, R1, H1_0⟩ := open_agg [.int .i64, .int .u32, .int .u32, .int .u32, .int .u32, .int .i64, .bool, .sl [.int .i64, .int .i64, .int .u32, .int .i64]] ⟨cs1, ecs1⟩ h1 (by kernel_rfl)
  obtain ⟨a1_0, r1_0, rfl, G1_0, H1_1⟩ := H1_0.cons
  obtain ⟨x1_0, rfl, w1_0⟩ := G1_0.int_inv
  obtain ⟨a1_1, r1_1, rfl, G1_1, H1_2⟩ := H1_1.cons
  obtain ⟨x1_1, rfl, w1_1⟩ := G1_1.int_inv
  obtain ⟨a1_2, r1_2, rfl, G1_2, H1_3⟩ := H1_2.cons
  obtain ⟨x1_2, rfl, w1_2⟩ := G1_2.int_inv
  obtain ⟨a1_3, r1_3, rfl, G1_3, H1_4⟩ := H1_3.cons
  obtain ⟨x1_3, rfl, w1_3⟩ := G1_3.int_inv
  obtain ⟨a1_4, r1_4, rfl, G1_4, H1_5⟩ := H1_4.cons
  obtain ⟨x1_4, rfl, w1_4⟩ := G1_4.int_inv
  obtain ⟨a1_5, r1_5, rfl, G1_5, H1_6⟩ := H1_5.cons
  obtain ⟨x1_5, rfl, w1_5⟩ := G1_5.int_inv
  obtain ⟨a1_6, r1_6, rfl, G1_6, H1_7⟩ := H1_6.cons
  obtain ⟨x1_6, rfl⟩ := G1_6.bool_inv
  obtain ⟨a1_7, r1_7, rfl, G1_7, H1_8⟩ := H1_7.cons
  obtain ⟨x1_7, rfl, w1_7, m1_7⟩ := G1_7.sl_inv
  obtain rfl := H1_8.nil
  obtain ⟨_, ev2⟩ := okWide_string Try.underlying9 (hval 2 9 v2 rfl rfl)
  obtain ⟨a2_0, R2, G2_0⟩ := open_leaf (.str) (by rw [ev2]; nofun) h2 (by kernel_rfl)
  obtain ⟨x2_0, rfl, w2_0⟩ := G2_0.str_inv
  obtain ⟨l0, rfl, g0⟩ := itrows m0_7
  obtain ⟨l1, rfl, g1⟩ := itrows m1_7
  refine (row_of (partSays_good x0_0 x0_1 x0_2 x0_3 x0_4 x0_5 x0_6 l0 x1_0 x1_1 x1_2 x1_3 x1_4 x1_5 x1_6 l1 x2_0 (wf_u32 w0_1) (wf_u32 w0_2) (wf_u32 w0_3) (wf_u32 w0_4) (fun x hx => by obtain ⟨a, b, c, d, rfl, _, _, h, _⟩ := g0 x hx; exact h)) (args_cons R0 (args_cons R1 (args_cons R2 args0)))).mono fun e W' ⟨he, hw⟩ => ?_
  subst he
  exact ⟨_, rfl, post_law Try.laidOut (by kernel_rfl) rfl (by kernel_rfl) Try.underlying4 hW' rfl hw⟩

theorem partsays_holds : Rows.PartSaysSaid :=
  OpenClaim.holds_of_wide 5 Try.f5 rfl rfl rfl rfl rfl rfl rfl ⟨rfl, rfl, rfl, rfl, rfl⟩ rfl rfl rfl rfl rfl (by kernel_rfl) Try.func5 (by kernel_rfl)
    (of_decide_eq_true (by kernel_rfl)) (by unfold Func.isWrapper; rw [if_neg (of_decide_eq_false (by kernel_rfl))]; exact ⟨rfl, rfl⟩)
    (fun os started H enc _ => partSays_lifted os started H enc)
#print axioms partsays_holds
end Go.Proofs.Ytkcdeefnkbbacaa


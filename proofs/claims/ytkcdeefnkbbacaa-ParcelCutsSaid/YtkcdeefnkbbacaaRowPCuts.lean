/- The law ParcelCuts holds: for every input the call returns true and each argument reads as it read. No condition. -/
import Derived.Test.YtkcdeefnkbbacaaLaw
import Derived.Test.YtkcdeefnkbbacaaW10e
namespace Go.Proofs.Ytkcdeefnkbbacaa
open Go.ChangeShapes Go.WideShapes Go.ChangeAt Go.RowKit

theorem prows {xs : List (List AV)} (h : ∀ x ∈ xs, HasL [.int .i64, .int .u32, .int .u32, .int .u32, .int .u32, .int .i64, .int .i64, .int .i64, .str] x) : ∃ l : List Pk, xs = l.map pr ∧ ∀ y ∈ l, ∃ n0 n1 n2 n3 n4 n5 n6 n7 n8, y = (n0, n1, n2, n3, n4, n5, n6, n7, n8) ∧ (-9223372036854775808 ≤ n0 ∧ n0 ≤ 9223372036854775807) ∧ (0 ≤ n1 ∧ n1 ≤ 4294967295) ∧ (0 ≤ n2 ∧ n2 ≤ 4294967295) ∧ (0 ≤ n3 ∧ n3 ≤ 4294967295) ∧ (0 ≤ n4 ∧ n4 ≤ 4294967295) ∧ (-9223372036854775808 ≤ n5 ∧ n5 ≤ 9223372036854775807) ∧ (-9223372036854775808 ≤ n6 ∧ n6 ≤ 9223372036854775807) ∧ (-9223372036854775808 ≤ n7 ∧ n7 ≤ 9223372036854775807) ∧ n8.length ≤ maxLen :=
  rows_of pr fun x hx => by
    obtain ⟨a0, r0, rfl, G0, H0⟩ := (h x hx).cons
    obtain ⟨n0, rfl, w0⟩ := G0.int_inv
    obtain ⟨a1, r1, rfl, G1, H1⟩ := H0.cons
    obtain ⟨n1, rfl, w1⟩ := G1.int_inv
    obtain ⟨a2, r2, rfl, G2, H2⟩ := H1.cons
    obtain ⟨n2, rfl, w2⟩ := G2.int_inv
    obtain ⟨a3, r3, rfl, G3, H3⟩ := H2.cons
    obtain ⟨n3, rfl, w3⟩ := G3.int_inv
    obtain ⟨a4, r4, rfl, G4, H4⟩ := H3.cons
    obtain ⟨n4, rfl, w4⟩ := G4.int_inv
    obtain ⟨a5, r5, rfl, G5, H5⟩ := H4.cons
    obtain ⟨n5, rfl, w5⟩ := G5.int_inv
    obtain ⟨a6, r6, rfl, G6, H6⟩ := H5.cons
    obtain ⟨n6, rfl, w6⟩ := G6.int_inv
    obtain ⟨a7, r7, rfl, G7, H7⟩ := H6.cons
    obtain ⟨n7, rfl, w7⟩ := G7.int_inv
    obtain ⟨a8, r8, rfl, G8, H8⟩ := H7.cons
    obtain ⟨n8, rfl, w8⟩ := G8.str_inv
    obtain rfl := H8.nil
    exact ⟨(n0, n1, n2, n3, n4, n5, n6, n7, n8), rfl, n0, n1, n2, n3, n4, n5, n6, n7, n8, rfl, wf_i64 w0, wf_u32 w1, wf_u32 w2, wf_u32 w3, wf_u32 w4, wf_i64 w5, wf_i64 w6, wf_i64 w7, w8⟩

set_option maxRecDepth 100000 in
theorem parcelCuts_lifted (os : Os) (started : os.Started) (H : Type) (enc : TypeId × Value → H) :
    ReturnsInHanded {} Try.checked os 10 .any (Rows.parcelCutsSpec.pre6 enc Try.prog Try.f10 Rows.parcelCutsRow.domain false) (Rows.parcelCutsSpec.post enc Try.prog Try.f10 false true false false) := by
  refine returnsInHanded_of_change (C := Try.checked) Try.own started (by kernel_rfl) Try.func10
    (ChangeSpec.witness6 (enc := enc) (C := Try.checked) false ⟨#[], #[.agg #[.int .i64 0, .int .u32 0, .int .u32 0, .int .u32 0, .int .u32 0, .int .i64 0, .int .i64 0, .int .i64 0, .string ⟨#[]⟩], .string ⟨#[]⟩, .slice none 0 0], []⟩ 8 (by kernel_rfl) (by kernel_rfl) (by kernel_rfl) (by kernel_rfl)) ?_
  intro W base args ds gs before hval0 hW hcnd _
  have hval : ∀ (j : Nat) t v, Try.f10.params[j]? = some t → args[j]? = some v → Value.okWide Try.prog W .any base t v := hval0
  have hW' := hW
  obtain ⟨p, q, hA0, hV, rfl, hfz, hnd⟩ := hW
  have hA : DataW.TrodAll enc Try.prog W 0 (fun _ => true) true Try.f10.params.toList args.toList ds p := hA0
  rw [Try.params10] at hA hval
  obtain ⟨v0, vs0, d0, ds0, p0, q0, hargs, rfl, rfl, h0, r0⟩ := trodAll_cons hA
  obtain ⟨v1, vs1, d1, ds1, p1, q1, rfl, rfl, rfl, h1, r1⟩ := trodAll_cons r0
  obtain ⟨v2, vs2, d2, ds2, p2, q2, rfl, rfl, rfl, h2, r2⟩ := trodAll_cons r1
  obtain ⟨rfl, rfl, rfl⟩ := trodAll_nil r2
  obtain rfl : args = #[v0, v1, v2] := by cases args; simp_all
  obtain ⟨rfl, rfl⟩ := trodVars_none hV
  obtain ⟨cs0, ecs0, _⟩ := okWide_struct Try.underlying68 (hval 0 68 v0 rfl rfl)
  obtain ⟨av0, R0, H0_0⟩ := open_agg [.int .i64, .int .u32, .int .u32, .int .u32, .int .u32, .int .i64, .int .i64, .int .i64, .str] ⟨cs0, ecs0⟩ h0 (by kernel_rfl)
  obtain ⟨a0_0, r0_0, rfl, G0_0, H0_1⟩ := H0_0.cons
  obtain ⟨x0_0, rfl, w0_0⟩ := G0_0.int_inv
  obtain ⟨a0_1, r0_1, rfl, G0_1, H0_2⟩ := H0_1.cons
  obtain ⟨x0_1, rfl, w0_1⟩ := G0_1.int_inv
  obtain ⟨a0_2, r0_2, rfl, G0_2, H0_3⟩ := H0_2.cons
  obtain ⟨x0_2, rfl, w0_2⟩ := G0_2.int_inv
  obtain ⟨a0_3, r0_3, rfl, G0_3, H0_4⟩ := H0_3.cons
  obtain ⟨x0_3, rfl, w0_3⟩ := G0_3.int_inv
  obtain ⟨a0_4, r0_4, rfl, G0_4, H0_5⟩ := H0_4.cons
  obtain ⟨x0_4, rfl, w0_4⟩ := G0_4.int_inv
  obtain ⟨a0_5, r0_5, rfl, G0_5, H0_6⟩ := H0_5.cons
  obtain ⟨x0_5, rfl, w0_5⟩ := G0_5.int_inv
  obtain ⟨a0_6, r0_6, rfl, G0_6, H0_7⟩ := H0_6.cons
  obtain ⟨x0_6, rfl, w0_6⟩ := G0_6.int_inv
  obtain ⟨a0_7, r0_7, rfl, G0_7, H0_8⟩ := H0_7.cons
  obtain ⟨x0_7, rfl, w0_7⟩ := G0_7.int_inv
  obtain ⟨a0_8, r0_8, rfl, G0_8, H0_9⟩ := H0_8.cons
  obtain ⟨x0_8, rfl, w0_8⟩ := G0_8.str_inv
  obtain rfl := H0_9.nil
  obtain ⟨_, ev1⟩ := okWide_string Try.underlying9 (hval 1 9 v1 rfl rfl)
  obtain ⟨a1_0, R1, G1_0⟩ := open_leaf (.str) (by rw [ev1]; nofun) h1 (by kernel_rfl)
  obtain ⟨x1_0, rfl, w1_0⟩ := G1_0.str_inv
  obtain ⟨_, _, _, ev2⟩ := okWide_slice Try.underlying75 (hval 2 75 v2 rfl rfl)
  obtain ⟨a2_0, R2, G2_0⟩ := open_leaf (.sl [.int .i64, .int .u32, .int .u32, .int .u32, .int .u32, .int .i64, .int .i64, .int .i64, .str]) (by rw [ev2]; nofun) h2 (by kernel_rfl)
  obtain ⟨x2_0, rfl, w2_0, m2_0⟩ := G2_0.sl_inv
  obtain ⟨l0, rfl, g0⟩ := prows m2_0
  refine (row_of (parcelCuts_good x0_0 x0_1 x0_2 x0_3 x0_4 x0_5 x0_6 x0_7 x0_8 x1_0 l0) (args_cons R0 (args_cons R1 (args_cons R2 args0)))).mono fun e W' ⟨he, hw⟩ => ?_
  subst he
  exact ⟨_, rfl, post_law Try.laidOut (by kernel_rfl) rfl (by kernel_rfl) Try.underlying4 hW' rfl hw⟩

theorem parcelcuts_holds : Rows.ParcelCutsSaid :=
  OpenClaim.holds_of_wide 10 Try.f10 rfl rfl rfl rfl rfl rfl rfl ⟨rfl, rfl, rfl, rfl, rfl⟩ rfl rfl rfl rfl rfl (by kernel_rfl) Try.func10 (by kernel_rfl)
    (of_decide_eq_true (by kernel_rfl)) (by unfold Func.isWrapper; rw [if_neg (of_decide_eq_false (by kernel_rfl))]; exact ⟨rfl, rfl⟩)
    (fun os started H enc _ => parcelCuts_lifted os started H enc)
#print axioms parcelcuts_holds
end Go.Proofs.Ytkcdeefnkbbacaa


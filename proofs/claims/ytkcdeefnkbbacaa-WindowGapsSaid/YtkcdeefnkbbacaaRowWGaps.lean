/- The law WindowGaps holds: for every input the call returns true and each argument reads as it read. No condition. -/
import Derived.Test.YtkcdeefnkbbacaaLaw
import Derived.Test.YtkcdeefnkbbacaaW16h
namespace Go.Proofs.Ytkcdeefnkbbacaa
open Go.ChangeShapes Go.WideShapes Go.ChangeAt Go.RowKit

theorem itrows {xs : List (List AV)} (h : ∀ x ∈ xs, HasL [.int .i64, .int .i64, .int .u32, .int .i64] x) : ∃ l : List (Int × Int × Int × Int), xs = l.map it ∧ ∀ y ∈ l, ∃ n0 n1 n2 n3, y = (n0, n1, n2, n3) ∧ (-9223372036854775808 ≤ n0 ∧ n0 ≤ 9223372036854775807) ∧ (-9223372036854775808 ≤ n1 ∧ n1 ≤ 9223372036854775807) ∧ (0 ≤ n2 ∧ n2 ≤ 4294967295) ∧ (-9223372036854775808 ≤ n3 ∧ n3 ≤ 9223372036854775807) :=
  rows_of it fun x hx => by
    obtain ⟨a0, r0, rfl, G0, H0⟩ := (h x hx).cons
    obtain ⟨n0, rfl, w0⟩ := G0.int_inv
    obtain ⟨a1, r1, rfl, G1, H1⟩ := H0.cons
    obtain ⟨n1, rfl, w1⟩ := G1.int_inv
    obtain ⟨a2, r2, rfl, G2, H2⟩ := H1.cons
    obtain ⟨n2, rfl, w2⟩ := G2.int_inv
    obtain ⟨a3, r3, rfl, G3, H3⟩ := H2.cons
    obtain ⟨n3, rfl, w3⟩ := G3.int_inv
    obtain rfl := H3.nil
    exact ⟨(n0, n1, n2, n3), rfl, n0, n1, n2, n3, rfl, wf_i64 w0, wf_i64 w1, wf_u32 w2, wf_i64 w3⟩

theorem qrows {xs : List (List AV)} (h : ∀ x ∈ xs, HasL [.int .i64, .int .u32, .int .u32, .int .u32, .int .u32, .int .i64, .bool, .sl [.int .i64, .int .i64, .int .u32, .int .i64]] x) : ∃ l : List Qt, xs = l.map qt ∧ ∀ y ∈ l, ∃ n0 n1 n2 n3 n4 n5 n6 n7, y = (n0, n1, n2, n3, n4, n5, n6, n7) ∧ (-9223372036854775808 ≤ n0 ∧ n0 ≤ 9223372036854775807) ∧ (0 ≤ n1 ∧ n1 ≤ 4294967295) ∧ (0 ≤ n2 ∧ n2 ≤ 4294967295) ∧ (0 ≤ n3 ∧ n3 ≤ 4294967295) ∧ (0 ≤ n4 ∧ n4 ≤ 4294967295) ∧ (-9223372036854775808 ≤ n5 ∧ n5 ≤ 9223372036854775807) ∧ True ∧ True :=
  rows_of qt fun x hx => by
    obtain ⟨a0, r0, rfl, G0, H0⟩ := (h x hx).cons
    obtain ⟨n0, rfl, w0⟩ := G0.int_inv
    obtain ⟨a1, r1, rfl, G1, H1⟩ := H0.cons
    obtain ⟨n1, rfl, w1⟩ := G1.int_inv
    obtain ⟨a2, r2, rfl, G2, H2⟩ := H1.cons
    obtain ⟨n2, rfl, w2⟩ := G2.int_inv
    obtain ⟨a3, r3, rfl, G3, H3⟩ := H2.cons
    obtain ⟨n3, rfl, w3⟩ := G3.int_inv
    obtain ⟨a4, r4, rfl, G4, H4⟩ := H3.cons
    obtain ⟨n4, rfl, w4⟩ := G4.int_inv
    obtain ⟨a5, r5, rfl, G5, H5⟩ := H4.cons
    obtain ⟨n5, rfl, w5⟩ := G5.int_inv
    obtain ⟨a6, r6, rfl, G6, H6⟩ := H5.cons
    obtain ⟨n6, rfl⟩ := G6.bool_inv
    obtain ⟨a7, r7, rfl, G7, H7⟩ := H6.cons
    obtain ⟨y7, rfl, w7, m7⟩ := G7.sl_inv
    obtain ⟨n7, rfl, v7⟩ := itrows m7
    obtain rfl := H7.nil
    exact ⟨(n0, n1, n2, n3, n4, n5, n6, n7), rfl, n0, n1, n2, n3, n4, n5, n6, n7, rfl, wf_i64 w0, wf_u32 w1, wf_u32 w2, wf_u32 w3, wf_u32 w4, wf_i64 w5, trivial, trivial⟩

theorem introws {xs : List (List AV)} (h : ∀ x ∈ xs, HasL [.int .i64] x) : ∃ l : List Int, xs = l.map i1 ∧ ∀ y ∈ l, ∃ n0, y = n0 ∧ (-9223372036854775808 ≤ n0 ∧ n0 ≤ 9223372036854775807) :=
  rows_of i1 fun x hx => by
    obtain ⟨a0, r0, rfl, G0, H0⟩ := (h x hx).cons
    obtain ⟨n0, rfl, w0⟩ := G0.int_inv
    obtain rfl := H0.nil
    exact ⟨n0, rfl, n0, rfl, wf_i64 w0⟩

set_option maxRecDepth 100000 in
theorem windowGaps_lifted (os : Os) (started : os.Started) (H : Type) (enc : TypeId × Value → H) :
    ReturnsInHanded {} Try.checked os 13 .any (Rows.windowGapsSpec.pre6 enc Try.prog Try.f13 Rows.windowGapsRow.domain false) (Rows.windowGapsSpec.post enc Try.prog Try.f13 false true false false) := by
  refine returnsInHanded_of_change (C := Try.checked) Try.own started (by kernel_rfl) Try.func13
    (ChangeSpec.witness6 (enc := enc) (C := Try.checked) false ⟨#[], #[.agg #[.int .i64 0, .slice none 0 0], .slice none 0 0], []⟩ 8 (by kernel_rfl) (by kernel_rfl) (by kernel_rfl) (by kernel_rfl)) ?_
  intro W base args ds gs before hval0 hW hcnd _
  have hval : ∀ (j : Nat) t v, Try.f13.params[j]? = some t → args[j]? = some v → Value.okWide Try.prog W .any base t v := hval0
  have hW' := hW
  obtain ⟨p, q, hA0, hV, rfl, hfz, hnd⟩ := hW
  have hA : DataW.TrodAll enc Try.prog W 0 (fun _ => true) true Try.f13.params.toList args.toList ds p := hA0
  rw [Try.params13] at hA hval
  obtain ⟨v0, vs0, d0, ds0, p0, q0, hargs, rfl, rfl, h0, r0⟩ := trodAll_cons hA
  obtain ⟨v1, vs1, d1, ds1, p1, q1, rfl, rfl, rfl, h1, r1⟩ := trodAll_cons r0
  obtain ⟨rfl, rfl, rfl⟩ := trodAll_nil r1
  obtain rfl : args = #[v0, v1] := by cases args; simp_all
  obtain ⟨rfl, rfl⟩ := trodVars_none hV
  obtain ⟨cs0, ecs0, _⟩ := okWide_struct Try.underlying87 (hval 0 87 v0 rfl rfl)
  obtain ⟨av0, R0, H0_0⟩ := open_agg [.int .i64, .sl [.int .i64, .int .u32, .int .u32, .int .u32, .int .u32, .int .i64, .bool, .sl [.int .i64, .int .i64, .int .u32, .int .i64]]] ⟨cs0, ecs0⟩ h0 (by kernel_rfl)
  obtain ⟨a0_0, r0_0, rfl, G0_0, H0_1⟩ := H0_0.cons
  obtain ⟨x0_0, rfl, w0_0⟩ := G0_0.int_inv
  obtain ⟨a0_1, r0_1, rfl, G0_1, H0_2⟩ := H0_1.cons
  obtain ⟨x0_1, rfl, w0_1, m0_1⟩ := G0_1.sl_inv
  obtain rfl := H0_2.nil
  obtain ⟨_, _, _, ev1⟩ := okWide_slice Try.underlying52 (hval 1 52 v1 rfl rfl)
  obtain ⟨a1_0, R1, G1_0⟩ := open_leaf (.sl [.int .i64]) (by rw [ev1]; nofun) h1 (by kernel_rfl)
  obtain ⟨x1_0, rfl, w1_0, m1_0⟩ := G1_0.sl_inv
  obtain ⟨l0, rfl, g0⟩ := qrows m0_1
  obtain ⟨l1, rfl, g1⟩ := introws m1_0
  refine (row_of (windowGaps_good x0_0 l0 l1) (args_cons R0 (args_cons R1 args0))).mono fun e W' ⟨he, hw⟩ => ?_
  subst he
  exact ⟨_, rfl, post_law Try.laidOut (by kernel_rfl) rfl (by kernel_rfl) Try.underlying4 hW' rfl hw⟩

theorem windowgaps_holds : Rows.WindowGapsSaid :=
  OpenClaim.holds_of_wide 13 Try.f13 rfl rfl rfl rfl rfl rfl rfl ⟨rfl, rfl, rfl, rfl, rfl⟩ rfl rfl rfl rfl rfl (by kernel_rfl) Try.func13 (by kernel_rfl)
    (of_decide_eq_true (by kernel_rfl)) (by unfold Func.isWrapper; rw [if_neg (of_decide_eq_false (by kernel_rfl))]; exact ⟨rfl, rfl⟩)
    (fun os started H enc _ => windowGaps_lifted os started H enc)
#print axioms windowgaps_holds
end Go.Proofs.Ytkcdeefnkbbacaa


/- The law SplitBack holds: for every input the call returns true and each argument reads as it read. No condition. -/
import Derived.Test.YtkcdeefnkbbacaaLaw
import Derived.Test.YtkcdeefnkbbacaaW18d
namespace Go.Proofs.Ytkcdeefnkbbacaa
open Go.ChangeShapes Go.WideShapes Go.ChangeAt Go.RowKit

theorem itrows {xs : List (List AV)} (h : ∀ x ∈ xs, HasL [.int .i64, .int .i64, .int .u32, .int .i64] x) : ∃ l : List (Int × Int × Int × Int), xs = l.map it ∧ ∀ y ∈ l, ∃ n0 n1 n2 n3, y = (n0, n1, n2, n3) ∧ (-9223372036854775808 ≤ n0 ∧ n0 ≤ 9223372036854775807) ∧ (-9223372036854775808 ≤ n1 ∧ n1 ≤ 9223372036854775807) ∧ (0 ≤ n2 ∧ n2 ≤ 4294967295) ∧ (-9223372036854775808 ≤ n3 ∧ n3 ≤ 9223372036854775807) :=
  rows_of it fun x hx => by
    obtain ⟨a0, r0, rfl, G0, H0⟩ := (h x hx).cons
    obtain ⟨n0, rfl, w0⟩ := G0.int_inv
    obtain ⟨a1, r1, rfl, G1, H1⟩ := H0.cons
    obtain ⟨n1, rfl, w1⟩ := G1.int_inv
    obtain ⟨a2, r2, rfl, G2, H2⟩ := H1.cons
    obtain ⟨n2, rfl, w2⟩ := G2.int_inv
    obtain ⟨a3, r3, rfl, G3, H3⟩ := H2.cons
    obtain ⟨n3, rfl, w3⟩ := G3.int_inv
    obtain rfl := H3.nil
    exact ⟨(n0, n1, n2, n3), rfl, n0, n1, n2, n3, rfl, wf_i64 w0, wf_i64 w1, wf_u32 w2, wf_i64 w3⟩

set_option maxRecDepth 100000 in
theorem splitBack_lifted (os : Os) (started : os.Started) (H : Type) (enc : TypeId × Value → H) :
    ReturnsInHanded {} Try.checked os 11 .any (Rows.splitBackSpec.pre6 enc Try.prog Try.f11 Rows.splitBackRow.domain false) (Rows.splitBackSpec.post enc Try.prog Try.f11 false true false false) := by
  refine returnsInHanded_of_change (C := Try.checked) Try.own started (by kernel_rfl) Try.func11
    (ChangeSpec.witness6 (enc := enc) (C := Try.checked) false ⟨#[], #[.slice none 0 0], []⟩ 8 (by kernel_rfl) (by kernel_rfl) (by kernel_rfl) (by kernel_rfl)) ?_
  intro W base args ds gs before hval0 hW hcnd _
  have hval : ∀ (j : Nat) t v, Try.f11.params[j]? = some t → args[j]? = some v → Value.okWide Try.prog W .any base t v := hval0
  have hW' := hW
  obtain ⟨p, q, hA0, hV, rfl, hfz, hnd⟩ := hW
  have hA : DataW.TrodAll enc Try.prog W 0 (fun _ => true) true Try.f11.params.toList args.toList ds p := hA0
  rw [Try.params11] at hA hval
  obtain ⟨v0, vs0, d0, ds0, p0, q0, hargs, rfl, rfl, h0, r0⟩ := trodAll_cons hA
  obtain ⟨rfl, rfl, rfl⟩ := trodAll_nil r0
  obtain rfl : args = #[v0] := by cases args; simp_all
  obtain ⟨rfl, rfl⟩ := trodVars_none hV
  obtain ⟨_, _, _, ev0⟩ := okWide_slice Try.underlying37 (hval 0 37 v0 rfl rfl)
  obtain ⟨a0_0, R0, G0_0⟩ := open_leaf (.sl [.int .i64, .int .i64, .int .u32, .int .i64]) (by rw [ev0]; nofun) h0 (by kernel_rfl)
  obtain ⟨x0_0, rfl, w0_0, m0_0⟩ := G0_0.sl_inv
  obtain ⟨l0, rfl, g0⟩ := itrows m0_0
  refine (row_of (splitBack_good l0 (fun x hx => by obtain ⟨a, b, c, d, rfl, _, _, h, _⟩ := g0 x hx; exact h)) (args_cons R0 args0)).mono fun e W' ⟨he, hw⟩ => ?_
  subst he
  exact ⟨_, rfl, post_law Try.laidOut (by kernel_rfl) rfl (by kernel_rfl) Try.underlying4 hW' rfl hw⟩

theorem splitback_holds : Rows.SplitBackSaid :=
  OpenClaim.holds_of_wide 11 Try.f11 rfl rfl rfl rfl rfl rfl rfl ⟨rfl, rfl, rfl, rfl, rfl⟩ rfl rfl rfl rfl rfl (by kernel_rfl) Try.func11 (by kernel_rfl)
    (of_decide_eq_true (by kernel_rfl)) (by unfold Func.isWrapper; rw [if_neg (of_decide_eq_false (by kernel_rfl))]; exact ⟨rfl, rfl⟩)
    (fun os started H enc _ => splitBack_lifted os started H enc)
#print axioms splitback_holds
end Go.Proofs.Ytkcdeefnkbbacaa


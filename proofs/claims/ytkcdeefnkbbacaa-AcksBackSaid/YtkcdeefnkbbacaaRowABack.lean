/- The law AcksBack holds: for every input the call returns true and each argument reads as it read. No condition. -/
import Derived.Test.YtkcdeefnkbbacaaLaw
import Derived.Test.YtkcdeefnkbbacaaW09d
namespace Go.Proofs.Ytkcdeefnkbbacaa
open Go.ChangeShapes Go.WideShapes Go.ChangeAt Go.RowKit

theorem irows {xs : List (List AV)} (h : ∀ x ∈ xs, HasL [.int .i64] x) : ∃ l : List Int, xs = l.map i1 ∧ ∀ y ∈ l, ∃ n0, y = n0 ∧ (-9223372036854775808 ≤ n0 ∧ n0 ≤ 9223372036854775807) :=
  rows_of i1 fun x hx => by
    obtain ⟨a0, r0, rfl, G0, H0⟩ := (h x hx).cons
    obtain ⟨n0, rfl, w0⟩ := G0.int_inv
    obtain rfl := H0.nil
    exact ⟨n0, rfl, n0, rfl, wf_i64 w0⟩

set_option maxRecDepth 100000 in
theorem acksBack_lifted (os : Os) (started : os.Started) (H : Type) (enc : TypeId × Value → H) :
    ReturnsInHanded {} Try.checked os 7 .any (Rows.acksBackSpec.pre6 enc Try.prog Try.f7 Rows.acksBackRow.domain false) (Rows.acksBackSpec.post enc Try.prog Try.f7 false true false false) := by
  refine returnsInHanded_of_change (C := Try.checked) Try.own started (by kernel_rfl) Try.func7
    (ChangeSpec.witness6 (enc := enc) (C := Try.checked) false ⟨#[], #[.string ⟨#[]⟩, .int .i64 0, .slice none 0 0], []⟩ 8 (by kernel_rfl) (by kernel_rfl) (by kernel_rfl) (by kernel_rfl)) ?_
  intro W base args ds gs before hval0 hW hcnd _
  have hval : ∀ (j : Nat) t v, Try.f7.params[j]? = some t → args[j]? = some v → Value.okWide Try.prog W .any base t v := hval0
  have hW' := hW
  obtain ⟨p, q, hA0, hV, rfl, hfz, hnd⟩ := hW
  have hA : DataW.TrodAll enc Try.prog W 0 (fun _ => true) true Try.f7.params.toList args.toList ds p := hA0
  rw [Try.params7] at hA hval
  obtain ⟨v0, vs0, d0, ds0, p0, q0, hargs, rfl, rfl, h0, r0⟩ := trodAll_cons hA
  obtain ⟨v1, vs1, d1, ds1, p1, q1, rfl, rfl, rfl, h1, r1⟩ := trodAll_cons r0
  obtain ⟨v2, vs2, d2, ds2, p2, q2, rfl, rfl, rfl, h2, r2⟩ := trodAll_cons r1
  obtain ⟨rfl, rfl, rfl⟩ := trodAll_nil r2
  obtain rfl : args = #[v0, v1, v2] := by cases args; simp_all
  obtain ⟨rfl, rfl⟩ := trodVars_none hV
  obtain ⟨_, ev0⟩ := okWide_string Try.underlying9 (hval 0 9 v0 rfl rfl)
  obtain ⟨a0_0, R0, G0_0⟩ := open_leaf (.str) (by rw [ev0]; nofun) h0 (by kernel_rfl)
  obtain ⟨x0_0, rfl, w0_0⟩ := G0_0.str_inv
  obtain ⟨_, ev1⟩ := okWide_int Try.underlying3 (hval 1 3 v1 rfl rfl)
  obtain ⟨a1_0, R1, G1_0⟩ := open_leaf (.int .i64) (by rw [ev1]; nofun) h1 (by kernel_rfl)
  obtain ⟨x1_0, rfl, w1_0⟩ := G1_0.int_inv
  obtain ⟨_, _, _, ev2⟩ := okWide_slice Try.underlying52 (hval 2 52 v2 rfl rfl)
  obtain ⟨a2_0, R2, G2_0⟩ := open_leaf (.sl [.int .i64]) (by rw [ev2]; nofun) h2 (by kernel_rfl)
  obtain ⟨x2_0, rfl, w2_0, m2_0⟩ := G2_0.sl_inv
  obtain ⟨l0, rfl, g0⟩ := irows m2_0
  refine (row_of (acksBack_good x0_0 x1_0 l0 (fun s hs => by obtain ⟨a, rfl, h⟩ := g0 s hs; exact h.2)) (args_cons R0 (args_cons R1 (args_cons R2 args0)))).mono fun e W' ⟨he, hw⟩ => ?_
  subst he
  exact ⟨_, rfl, post_law Try.laidOut (by kernel_rfl) rfl (by kernel_rfl) Try.underlying4 hW' rfl hw⟩

theorem acksback_holds : Rows.AcksBackSaid :=
  OpenClaim.holds_of_wide 7 Try.f7 rfl rfl rfl rfl rfl rfl rfl ⟨rfl, rfl, rfl, rfl, rfl⟩ rfl rfl rfl rfl rfl (by kernel_rfl) Try.func7 (by kernel_rfl)
    (of_decide_eq_true (by kernel_rfl)) (by unfold Func.isWrapper; rw [if_neg (of_decide_eq_false (by kernel_rfl))]; exact ⟨rfl, rfl⟩)
    (fun os started H enc _ => acksBack_lifted os started H enc)
#print axioms acksback_holds
end Go.Proofs.Ytkcdeefnkbbacaa


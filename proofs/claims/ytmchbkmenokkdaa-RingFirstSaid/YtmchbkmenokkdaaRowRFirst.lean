/- The law RingFirst holds: for every input the call returns true and each argument reads as it read. No condition. -/
import Derived.Test.YtmchbkmenokkdaaLaw
import Derived.Test.YtmchbkmenokkdaaS12b
namespace Go.Proofs.Ytmchbkmenokkdaa
open Go.ChangeShapes Go.WideShapes Go.ChangeAt Go.RowKit

theorem brows {xs : List (List AV)} (h : ∀ x ∈ xs, HasL [.bool] x) : ∃ l : List Bool, xs = l.map br ∧ ∀ y ∈ l, ∃ n0, y = n0 ∧ True :=
  rows_of br fun x hx => by
    obtain ⟨a0, r0, rfl, G0, H0⟩ := (h x hx).cons
    obtain ⟨n0, rfl⟩ := G0.bool_inv
    obtain rfl := H0.nil
    exact ⟨n0, rfl, n0, rfl, trivial⟩

set_option maxRecDepth 100000 in
theorem ringFirst_lifted (os : Os) (started : os.Started) (H : Type) (enc : TypeId × Value → H) :
    ReturnsInHanded {} Try.checked os 3 .any (Rows.ringFirstSpec.pre6 enc Try.prog Try.f3 Rows.ringFirstRow.domain false) (Rows.ringFirstSpec.post enc Try.prog Try.f3 false true false false) := by
  refine returnsInHanded_of_change (C := Try.checked) Try.own started (by kernel_rfl) Try.func3
    (ChangeSpec.witness6 (enc := enc) (C := Try.checked) false ⟨#[], #[.int .i64 0, .slice none 0 0], []⟩ 8 (by kernel_rfl) (by kernel_rfl) (by kernel_rfl) (by kernel_rfl)) ?_
  intro W base args ds gs before hval0 hW hcnd _
  have hval : ∀ (j : Nat) t v, Try.f3.params[j]? = some t → args[j]? = some v → Value.okWide Try.prog W .any base t v := hval0
  have hW' := hW
  obtain ⟨p, q, hA0, hV, rfl, hfz, hnd⟩ := hW
  have hA : DataW.TrodAll enc Try.prog W 0 (fun _ => true) true Try.f3.params.toList args.toList ds p := hA0
  rw [Try.params3] at hA hval
  obtain ⟨v0, vs0, d0, ds0, p0, q0, hargs, rfl, rfl, h0, r0⟩ := trodAll_cons hA
  obtain ⟨v1, vs1, d1, ds1, p1, q1, rfl, rfl, rfl, h1, r1⟩ := trodAll_cons r0
  obtain ⟨rfl, rfl, rfl⟩ := trodAll_nil r1
  obtain rfl : args = #[v0, v1] := by cases args; simp_all
  obtain ⟨rfl, rfl⟩ := trodVars_none hV
  obtain ⟨_, ev0⟩ := okWide_int Try.underlying3 (hval 0 3 v0 rfl rfl)
  obtain ⟨a0_0, R0, G0_0⟩ := open_leaf (.int .i64) (by rw [ev0]; nofun) h0 (by kernel_rfl)
  obtain ⟨x0_0, rfl, w0_0⟩ := G0_0.int_inv
  obtain ⟨_, _, _, ev1⟩ := okWide_slice Try.underlying22 (hval 1 22 v1 rfl rfl)
  obtain ⟨a1_0, R1, G1_0⟩ := open_leaf (.sl [.bool]) (by rw [ev1]; nofun) h1 (by kernel_rfl)
  obtain ⟨x1_0, rfl, w1_0, m1_0⟩ := G1_0.sl_inv
  obtain ⟨l1, rfl, g1⟩ := brows m1_0
  refine (row_of (ringFirst_good x0_0 l1) (args_cons R0 (args_cons R1 args0))).mono fun e W' ⟨he, hw⟩ => ?_
  subst he
  exact ⟨_, rfl, post_law Try.laidOut (by kernel_rfl) rfl (by kernel_rfl) Try.underlying4 hW' rfl hw⟩

theorem ringfirst_holds : Rows.RingFirstSaid :=
  OpenClaim.holds_of_wide 3 Try.f3 rfl rfl rfl rfl rfl rfl rfl ⟨rfl, rfl, rfl, rfl, rfl⟩ rfl rfl rfl rfl rfl (by kernel_rfl) Try.func3 (by kernel_rfl)
    (of_decide_eq_true (by kernel_rfl)) (by unfold Func.isWrapper; rw [if_neg (of_decide_eq_false (by kernel_rfl))]; exact ⟨rfl, rfl⟩)
    (fun os started H enc _ => ringFirst_lifted os started H enc)
#print axioms ringfirst_holds
end Go.Proofs.Ytmchbkmenokkdaa


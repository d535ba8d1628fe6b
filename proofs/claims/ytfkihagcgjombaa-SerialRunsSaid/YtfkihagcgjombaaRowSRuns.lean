/- The law SerialRuns holds: for every input the call returns true and each argument reads as it read. No condition. -/
import Derived.Test.YtfkihagcgjombaaLaw
import Derived.Test.YtfkihagcgjombaaT15f
namespace Go.Proofs.Ytfkihagcgjombaa
open Go.ChangeShapes Go.WideShapes Go.ChangeAt Go.RowKit

theorem okWide_arr {P : Program} {w : World} {r : Reach} {base : Nat} {t : TypeId} {v : Value} {n : Nat} {e : TypeId} (ht : P.underlying t = some (.array n e)) (h : Value.okWide P w r base t v) : ∃ cs, v = .agg cs ∧ cs.size = P.cellsOf t := by
  simp only [Value.okWide, ht] at h
  obtain ⟨cs, h1, h2, _⟩ := h
  exact ⟨cs, h1, h2⟩
theorem introws {xs : List (List AV)} (h : ∀ x ∈ xs, HasL [.int .i64] x) : ∃ l : List Int, xs = l.map i1 ∧ ∀ y ∈ l, ∃ n0, y = n0 ∧ (-9223372036854775808 ≤ n0 ∧ n0 ≤ 9223372036854775807) :=
  rows_of i1 fun x hx => by
    obtain ⟨a0, r0, rfl, G0, H0⟩ := (h x hx).cons
    obtain ⟨n0, rfl, w0⟩ := G0.int_inv
    obtain rfl := H0.nil
    exact ⟨n0, rfl, n0, rfl, wf_i64 w0⟩

theorem rrows {xs : List (List AV)} (h : ∀ x ∈ xs, HasL [.int .i64, .int .i64] x) : ∃ l : List (Int × Int), xs = l.map rr ∧ ∀ y ∈ l, ∃ n0 n1, y = (n0, n1) ∧ (-9223372036854775808 ≤ n0 ∧ n0 ≤ 9223372036854775807) ∧ (-9223372036854775808 ≤ n1 ∧ n1 ≤ 9223372036854775807) :=
  rows_of rr fun x hx => by
    obtain ⟨a0, r0, rfl, G0, H0⟩ := (h x hx).cons
    obtain ⟨n0, rfl, w0⟩ := G0.int_inv
    obtain ⟨a1, r1, rfl, G1, H1⟩ := H0.cons
    obtain ⟨n1, rfl, w1⟩ := G1.int_inv
    obtain rfl := H1.nil
    exact ⟨(n0, n1), rfl, n0, n1, rfl, wf_i64 w0, wf_i64 w1⟩

set_option maxRecDepth 100000 in
theorem serialRuns_lifted (os : Os) (started : os.Started) (H : Type) (enc : TypeId × Value → H) :
    ReturnsInHanded {} Try.checked os 4 .any (Rows.serialRunsSpec.pre6 enc Try.prog Try.f4 Rows.serialRunsRow.domain false) (Rows.serialRunsSpec.post enc Try.prog Try.f4 false true false false) := by
  refine returnsInHanded_of_change (C := Try.checked) Try.own started (by kernel_rfl) Try.func4
    (ChangeSpec.witness6 (enc := enc) (C := Try.checked) false ⟨#[], #[.slice none 0 0, .slice none 0 0, .agg #[.int .i64 0, .int .i64 0]], []⟩ 8 (by kernel_rfl) (by kernel_rfl) (by kernel_rfl) (by kernel_rfl)) ?_
  intro W base args ds gs before hval0 hW hcnd _
  have hval : ∀ (j : Nat) t v, Try.f4.params[j]? = some t → args[j]? = some v → Value.okWide Try.prog W .any base t v := hval0
  have hW' := hW
  obtain ⟨p, q, hA0, hV, rfl, hfz, hnd⟩ := hW
  have hA : DataW.TrodAll enc Try.prog W 0 (fun _ => true) true Try.f4.params.toList args.toList ds p := hA0
  rw [Try.params4] at hA hval
  obtain ⟨v0, vs0, d0, ds0, p0, q0, hargs, rfl, rfl, h0, r0⟩ := trodAll_cons hA
  obtain ⟨v1, vs1, d1, ds1, p1, q1, rfl, rfl, rfl, h1, r1⟩ := trodAll_cons r0
  obtain ⟨v2, vs2, d2, ds2, p2, q2, rfl, rfl, rfl, h2, r2⟩ := trodAll_cons r1
  obtain ⟨rfl, rfl, rfl⟩ := trodAll_nil r2
  obtain rfl : args = #[v0, v1, v2] := by cases args; simp_all
  obtain ⟨rfl, rfl⟩ := trodVars_none hV
  obtain ⟨_, _, _, ev0⟩ := okWide_slice Try.underlying30 (hval 0 30 v0 rfl rfl)
  obtain ⟨a0_0, R0, G0_0⟩ := open_leaf (.sl [.int .i64]) (by rw [ev0]; nofun) h0 (by kernel_rfl)
  obtain ⟨x0_0, rfl, w0_0, m0_0⟩ := G0_0.sl_inv
  obtain ⟨_, _, _, ev1⟩ := okWide_slice Try.underlying31 (hval 1 31 v1 rfl rfl)
  obtain ⟨a1_0, R1, G1_0⟩ := open_leaf (.sl [.int .i64, .int .i64]) (by rw [ev1]; nofun) h1 (by kernel_rfl)
  obtain ⟨x1_0, rfl, w1_0, m1_0⟩ := G1_0.sl_inv
  obtain ⟨cs2, ecs2, _⟩ := okWide_arr Try.underlying32 (hval 2 32 v2 rfl rfl)
  obtain ⟨av2, R2, H2_0⟩ := open_agg [.int .i64, .int .i64] ⟨cs2, ecs2⟩ h2 (by kernel_rfl)
  obtain ⟨a2_0, r2_0, rfl, G2_0, H2_1⟩ := H2_0.cons
  obtain ⟨x2_0, rfl, w2_0⟩ := G2_0.int_inv
  obtain ⟨a2_1, r2_1, rfl, G2_1, H2_2⟩ := H2_1.cons
  obtain ⟨x2_1, rfl, w2_1⟩ := G2_1.int_inv
  obtain rfl := H2_2.nil
  obtain ⟨l0, rfl, g0⟩ := introws m0_0
  obtain ⟨l1, rfl, g1⟩ := rrows m1_0
  refine (row_of (law15_good l0 l1 x2_0 x2_1) (args_cons R0 (args_cons R1 (args_cons R2 args0)))).mono fun e W' ⟨he, hw⟩ => ?_
  subst he
  exact ⟨_, rfl, post_law Try.laidOut (by kernel_rfl) rfl (by kernel_rfl) Try.underlying4 hW' rfl hw⟩

theorem serialruns_holds : Rows.SerialRunsSaid :=
  OpenClaim.holds_of_wide 4 Try.f4 rfl rfl rfl rfl rfl rfl rfl ⟨rfl, rfl, rfl, rfl, rfl⟩ rfl rfl rfl rfl rfl (by kernel_rfl) Try.func4 (by kernel_rfl)
    (of_decide_eq_true (by kernel_rfl)) (by unfold Func.isWrapper; rw [if_neg (of_decide_eq_false (by kernel_rfl))]; exact ⟨rfl, rfl⟩)
    (fun os started H enc _ => serialRuns_lifted os started H enc)
#print axioms serialruns_holds
end Go.Proofs.Ytfkihagcgjombaa


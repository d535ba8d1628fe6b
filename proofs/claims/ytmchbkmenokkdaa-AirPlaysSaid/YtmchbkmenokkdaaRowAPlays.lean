/- The law AirPlays holds: for every input the call returns true and each argument reads as it read. No condition. -/
import Derived.Test.YtmchbkmenokkdaaLaw
import Derived.Test.YtmchbkmenokkdaaS40b
namespace Go.Proofs.Ytmchbkmenokkdaa
open Go.ChangeShapes Go.WideShapes Go.ChangeAt Go.RowKit

abbrev op40c (a b c : Int) (s : List UInt8) (d : Int) : Op40 := (a, (b, c, s), d)
theorem oprows {xs : List (List AV)} (h : ∀ x ∈ xs, HasL [.int .i64, .int .i64, .int .i64, .str, .int .i64] x) : ∃ l : List (Int × (Int × Int × List UInt8) × Int), xs = l.map op40 ∧ ∀ y ∈ l, ∃ n0 n1 n2 n3 n4, y = op40c n0 n1 n2 n3 n4 ∧ (-9223372036854775808 ≤ n0 ∧ n0 ≤ 9223372036854775807) ∧ (-9223372036854775808 ≤ n1 ∧ n1 ≤ 9223372036854775807) ∧ (-9223372036854775808 ≤ n2 ∧ n2 ≤ 9223372036854775807) ∧ n3.length ≤ maxLen ∧ (-9223372036854775808 ≤ n4 ∧ n4 ≤ 9223372036854775807) :=
  rows_of op40 fun x hx => by
    obtain ⟨a0, r0, rfl, G0, H0⟩ := (h x hx).cons
    obtain ⟨n0, rfl, w0⟩ := G0.int_inv
    obtain ⟨a1, r1, rfl, G1, H1⟩ := H0.cons
    obtain ⟨n1, rfl, w1⟩ := G1.int_inv
    obtain ⟨a2, r2, rfl, G2, H2⟩ := H1.cons
    obtain ⟨n2, rfl, w2⟩ := G2.int_inv
    obtain ⟨a3, r3, rfl, G3, H3⟩ := H2.cons
    obtain ⟨n3, rfl, w3⟩ := G3.str_inv
    obtain ⟨a4, r4, rfl, G4, H4⟩ := H3.cons
    obtain ⟨n4, rfl, w4⟩ := G4.int_inv
    obtain rfl := H4.nil
    exact ⟨op40c n0 n1 n2 n3 n4, rfl, n0, n1, n2, n3, n4, rfl, wf_i64 w0, wf_i64 w1, wf_i64 w2, w3, wf_i64 w4⟩

theorem flrows {xs : List (List AV)} (h : ∀ x ∈ xs, HasL [.int .i64, .int .i64, .str] x) : ∃ l : List (Int × Int × List UInt8), xs = l.map fl ∧ ∀ y ∈ l, ∃ n0 n1 n2, y = (n0, n1, n2) ∧ (-9223372036854775808 ≤ n0 ∧ n0 ≤ 9223372036854775807) ∧ (-9223372036854775808 ≤ n1 ∧ n1 ≤ 9223372036854775807) ∧ n2.length ≤ maxLen :=
  rows_of fl fun x hx => by
    obtain ⟨a0, r0, rfl, G0, H0⟩ := (h x hx).cons
    obtain ⟨n0, rfl, w0⟩ := G0.int_inv
    obtain ⟨a1, r1, rfl, G1, H1⟩ := H0.cons
    obtain ⟨n1, rfl, w1⟩ := G1.int_inv
    obtain ⟨a2, r2, rfl, G2, H2⟩ := H1.cons
    obtain ⟨n2, rfl, w2⟩ := G2.str_inv
    obtain rfl := H2.nil
    exact ⟨(n0, n1, n2), rfl, n0, n1, n2, rfl, wf_i64 w0, wf_i64 w1, w2⟩

set_option maxRecDepth 100000 in
theorem airPlays_lifted (os : Os) (started : os.Started) (H : Type) (enc : TypeId × Value → H) :
    ReturnsInHanded {} Try.checked os 10 .any (Rows.airPlaysSpec.pre6 enc Try.prog Try.f10 Rows.airPlaysRow.domain false) (Rows.airPlaysSpec.post enc Try.prog Try.f10 false true false false) := by
  refine returnsInHanded_of_change (C := Try.checked) Try.own started (by kernel_rfl) Try.func10
    (ChangeSpec.witness6 (enc := enc) (C := Try.checked) false ⟨#[], #[.slice none 0 0, .slice none 0 0], []⟩ 8 (by kernel_rfl) (by kernel_rfl) (by kernel_rfl) (by kernel_rfl)) ?_
  intro W base args ds gs before hval0 hW hcnd _
  have hval : ∀ (j : Nat) t v, Try.f10.params[j]? = some t → args[j]? = some v → Value.okWide Try.prog W .any base t v := hval0
  have hW' := hW
  obtain ⟨p, q, hA0, hV, rfl, hfz, hnd⟩ := hW
  have hA : DataW.TrodAll enc Try.prog W 0 (fun _ => true) true Try.f10.params.toList args.toList ds p := hA0
  rw [Try.params10] at hA hval
  obtain ⟨v0, vs0, d0, ds0, p0, q0, hargs, rfl, rfl, h0, r0⟩ := trodAll_cons hA
  obtain ⟨v1, vs1, d1, ds1, p1, q1, rfl, rfl, rfl, h1, r1⟩ := trodAll_cons r0
  obtain ⟨rfl, rfl, rfl⟩ := trodAll_nil r1
  obtain rfl : args = #[v0, v1] := by cases args; simp_all
  obtain ⟨rfl, rfl⟩ := trodVars_none hV
  obtain ⟨_, _, _, ev0⟩ := okWide_slice Try.underlying106 (hval 0 106 v0 rfl rfl)
  obtain ⟨a0_0, R0, G0_0⟩ := open_leaf (.sl [.int .i64, .int .i64, .str]) (by rw [ev0]; nofun) h0 (by kernel_rfl)
  obtain ⟨x0_0, rfl, w0_0, m0_0⟩ := G0_0.sl_inv
  obtain ⟨_, _, _, ev1⟩ := okWide_slice Try.underlying107 (hval 1 107 v1 rfl rfl)
  obtain ⟨a1_0, R1, G1_0⟩ := open_leaf (.sl [.int .i64, .int .i64, .int .i64, .str, .int .i64]) (by rw [ev1]; nofun) h1 (by kernel_rfl)
  obtain ⟨x1_0, rfl, w1_0, m1_0⟩ := G1_0.sl_inv
  obtain ⟨l0, rfl, g0⟩ := flrows m0_0
  obtain ⟨l1, rfl, g1⟩ := oprows m1_0
  refine (row_of (airPlays_good l0 l1) (args_cons R0 (args_cons R1 args0))).mono fun e W' ⟨he, hw⟩ => ?_
  subst he
  exact ⟨_, rfl, post_law Try.laidOut (by kernel_rfl) rfl (by kernel_rfl) Try.underlying4 hW' rfl hw⟩

theorem airplays_holds : Rows.AirPlaysSaid :=
  OpenClaim.holds_of_wide 10 Try.f10 rfl rfl rfl rfl rfl rfl rfl ⟨rfl, rfl, rfl, rfl, rfl⟩ rfl rfl rfl rfl rfl (by kernel_rfl) Try.func10 (by kernel_rfl)
    (of_decide_eq_true (by kernel_rfl)) (by unfold Func.isWrapper; rw [if_neg (of_decide_eq_false (by kernel_rfl))]; exact ⟨rfl, rfl⟩)
    (fun os started H enc _ => airPlays_lifted os started H enc)
#print axioms airplays_holds
end Go.Proofs.Ytmchbkmenokkdaa


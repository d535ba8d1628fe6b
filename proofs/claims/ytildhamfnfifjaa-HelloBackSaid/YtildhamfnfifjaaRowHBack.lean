/- The law HelloBack holds: for every input the call returns true and each argument reads as it read. No condition. -/
import Derived.Test.YtildhamfnfifjaaLaw
import Derived.Test.YtildhamfnfifjaaHelloJ
import Derived.Test.YtildhamfnfifjaaOpen
import Derived.Test.YtildhamfnfifjaaOpenH
namespace Go.Proofs.Ytildhamfnfifjaa
open Go.ChangeShapes Go.WideShapes Go.ChangeAt Go.RowKit
open Go.ChangeMaps (open_string)

set_option maxRecDepth 100000 in
theorem helloBack_lifted (os : Os) (started : os.Started) (H : Type) (enc : TypeId × Value → H) :
    ReturnsInHanded {} Try.checked os 4 .any (Rows.helloBackSpec.pre6 enc Try.prog Try.f4 Rows.helloBackRow.domain false) (Rows.helloBackSpec.post enc Try.prog Try.f4 false true false false) := by
  refine returnsInHanded_of_change (C := Try.checked) Try.own started (by kernel_rfl) Try.func4
    (ChangeSpec.witness6 (enc := enc) (C := Try.checked) false ⟨#[], #[.agg #[.int .i64 0, .int .u32 0, .int .u32 0, .int .u32 0, .int .u32 0], .string ⟨#[]⟩], []⟩ 8 (by kernel_rfl) (by kernel_rfl) (by kernel_rfl) (by kernel_rfl)) ?_
  intro W base args ds gs before hval0 hW hcnd _
  have hval : ∀ (j : Nat) t v, Try.f4.params[j]? = some t → args[j]? = some v → Value.okWide Try.prog W .any base t v := hval0
  have hW' := hW
  obtain ⟨p, q, hA0, hV, rfl, hfz, hnd⟩ := hW
  have hA : DataW.TrodAll enc Try.prog W 0 (fun _ => true) true Try.f4.params.toList args.toList ds p := hA0
  rw [Try.params4] at hA hval
  obtain ⟨v0, vs0, d0, ds0, p0, q0, hargs, rfl, rfl, h0, r0⟩ := trodAll_cons hA
  obtain ⟨v1, vs1, d1, ds1, p1, q1, rfl, rfl, rfl, h1, r1⟩ := trodAll_cons r0
  obtain ⟨rfl, rfl, rfl⟩ := trodAll_nil r1
  obtain rfl : args = #[v0, v1] := by cases args; simp_all
  obtain ⟨rfl, rfl⟩ := trodVars_none hV
  obtain ⟨x0, a, b, c, d, rfl, w0, wa, wb, wc, wd⟩ := open_hello (hval 0 28 v0 rfl rfl) h0
  obtain ⟨x1, rfl, rfl, rfl, w1⟩ := open_string Try.underlying9 (hval 1 9 v1 rfl rfl) h1
  obtain ⟨a, rfl⟩ := Int.eq_ofNat_of_zero_le (bd_u32 wa).1
  obtain ⟨b, rfl⟩ := Int.eq_ofNat_of_zero_le (bd_u32 wb).1
  obtain ⟨c, rfl⟩ := Int.eq_ofNat_of_zero_le (bd_u32 wc).1
  obtain ⟨d, rfl⟩ := Int.eq_ofNat_of_zero_le (bd_u32 wd).1
  refine (back_walk x0 a b c d (by have := (bd_u32 wa).2; omega) (by have := (bd_u32 wb).2; omega) (by have := (bd_u32 wc).2; omega) (by have := (bd_u32 wd).2; omega) x1.data.toList w1 W).mono fun e W' ⟨he, hw⟩ => ?_
  subst he
  exact ⟨_, rfl, post_law Try.laidOut (by kernel_rfl) rfl (by kernel_rfl) Try.underlying4 hW' rfl hw⟩

theorem helloback_holds : Rows.HelloBackSaid :=
  OpenClaim.holds_of_wide 4 Try.f4 rfl rfl rfl rfl rfl rfl rfl ⟨rfl, rfl, rfl, rfl, rfl⟩ rfl rfl rfl rfl rfl (by kernel_rfl) Try.func4 (by kernel_rfl)
    (of_decide_eq_true (by kernel_rfl)) (by unfold Func.isWrapper; rw [if_neg (of_decide_eq_false (by kernel_rfl))]; exact ⟨rfl, rfl⟩)
    (fun os started H enc _ => helloBack_lifted os started H enc)
#print axioms helloback_holds
end Go.Proofs.Ytildhamfnfifjaa

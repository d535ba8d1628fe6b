/- A hello handed in, opened to its five numbers. -/
import Derived.Test.YtildhamfnfifjaaOpen
set_option maxRecDepth 100000
namespace Go.Proofs.Ytildhamfnfifjaa
open Go.ChangeShapes Go.WideShapes Go.ChangeAt Go.RowKit
section
variable {H : Type} {enc : TypeId × Value → H} {w : World} {base : Nat} {spare : Nat → Bool} {held : Bool}
theorem list_five {α : Type} {l : List α} (h : l.length = 5) : ∃ a b c d e, l = [a, b, c, d, e] := by
  match l, h with
  | [a, b, c, d, e], _ => exact ⟨a, b, c, d, e, rfl⟩
theorem open_hello {r : Reach} {b0 : Nat} {v : Value} {dd : DataW H} {p : List MemPlace}
    (hv : Value.okWide Try.prog w r b0 28 v) (h : DataW.Trod enc Try.prog w base spare held 28 v dd p) :
    ∃ x a b c d : Int, v = .agg #[.int .i64 x, .int .u32 a, .int .u32 b, .int .u32 c, .int .u32 d] ∧ (Lit.int .i64 x).wf = true ∧ (Lit.int .u32 a).wf = true ∧ (Lit.int .u32 b).wf = true ∧ (Lit.int .u32 c).wf = true ∧ (Lit.int .u32 d).wf = true := by
  obtain ⟨cs, rfl, hsz⟩ := okWide_struct Try.underlying28 hv
  obtain ⟨l⟩ := cs
  have hC : Try.prog.cellsOf 28 = 5 := by kernel_rfl
  have k0 : Try.prog.cellsOf 3 = 1 := by kernel_rfl
  have k1 : Try.prog.cellsOf 22 = 1 := by kernel_rfl
  have k2 : Try.prog.cellsOf 24 = 2 := by kernel_rfl
  have k4 : Try.prog.cellsOf 26 = 4 := by kernel_rfl
  obtain ⟨c0, c1, c2, c3, c4, rfl⟩ := list_five (l := l) (by rw [hC] at hsz; exact hsz)
  obtain ⟨fuel, hf⟩ := h
  obtain ⟨y0, y1, n, _, _, h0, h1⟩ := trod_struct2 Try.underlying28 hf
  obtain ⟨z0, z1, m, _, _, g0, g1⟩ := trod_struct2 Try.underlying26 h1
  obtain ⟨_, _, _, _, _, a0, a1⟩ := trod_struct2 Try.underlying24 g0
  obtain ⟨_, _, _, _, _, b0, b1⟩ := trod_struct2 Try.underlying24 g1
  obtain ⟨x, ex, _, wx⟩ := DataW.trod_int Try.underlying3 h0
  obtain ⟨a, ea, _, wa⟩ := DataW.trod_int Try.underlying22 a0
  obtain ⟨b, eb, _, wb⟩ := DataW.trod_int Try.underlying22 a1
  obtain ⟨c, ec, _, wc⟩ := DataW.trod_int Try.underlying22 b0
  obtain ⟨d, ed, _, wd⟩ := DataW.trod_int Try.underlying22 b1
  simp [Value.cells, k0, k1, k2, k4] at ex ea eb ec ed
  exact ⟨x, a, b, c, d, by rw [ex, ea, eb, ec, ed], wx, wa, wb, wc, wd⟩
end
end Go.Proofs.Ytildhamfnfifjaa

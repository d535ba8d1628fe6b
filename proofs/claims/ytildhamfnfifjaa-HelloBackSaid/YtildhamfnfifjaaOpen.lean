/- Arguments opened to values: arrays and structs of one-cell parts. No program's fact stands here. -/
import Derived.Test.YtildhamfnfifjaaStr
import Derived.ProofKit
import Derived.OpenShut
namespace Go.Proofs.Ytildhamfnfifjaa
open Go.ChangeShapes Go.WideShapes Go.ChangeAt Go.RowKit
section
variable {H : Type} {enc : TypeId × Value → H} {P : Program} {w : World} {base : Nat} {spare : Nat → Bool} {held : Bool}
theorem okWide_array {r : Reach} {b0 : Nat} {t e : TypeId} {n : Nat} {v : Value} (ht : P.underlying t = some (.array n e)) (h : Value.okWide P w r b0 t v) : ∃ cs, v = .agg cs ∧ cs.size = P.cellsOf t := by
  simp only [Value.okWide, ht] at h
  obtain ⟨cs, h1, h2, _⟩ := h
  exact ⟨cs, h1, h2⟩
theorem list_two {α : Type} {l : List α} (h : l.length = 2) : ∃ a b, l = [a, b] := by
  match l, h with
  | [a, b], _ => exact ⟨a, b, rfl⟩
theorem list_three {α : Type} {l : List α} (h : l.length = 3) : ∃ a b c, l = [a, b, c] := by
  match l, h with
  | [a, b, c], _ => exact ⟨a, b, c, rfl⟩

/-- an array of two texts -/
theorem open_two_texts {r : Reach} {b0 : Nat} {t e : TypeId} {v : Value} {d : DataW H} {p : List MemPlace} (ht : P.underlying t = some (.array 2 e)) (he : P.underlying e = some .string) (hC : P.cellsOf e = 1) (hCt : P.cellsOf t = 2)
    (hv : Value.okWide P w r b0 t v) (h : DataW.Trod enc P w base spare held t v d p) : ∃ a b : ByteArray, v = .agg #[.string a, .string b] ∧ a.size ≤ maxLen ∧ b.size ≤ maxLen := by
  obtain ⟨cs, rfl, hsz⟩ := okWide_array ht hv
  obtain ⟨l⟩ := cs
  obtain ⟨c0, c1, rfl⟩ := list_two (l := l) (by rw [hCt] at hsz; exact hsz)
  obtain ⟨fuel, hf⟩ := h
  obtain ⟨xs, m, _, _, _, hlen, hg⟩ := DataW.trod_array ht hf
  obtain ⟨x0, x1, rfl⟩ := list_two hlen
  have g0 := hg 0 (by omega)
  have g1 := hg 1 (by omega)
  rw [hC] at g0 g1
  obtain ⟨a, ha, _, hs⟩ := DataW.trod_string he g0
  obtain ⟨b, hb, _, hs'⟩ := DataW.trod_string he g1
  simp [Value.cells] at ha hb
  exact ⟨a, b, by rw [ha, hb], hs, hs'⟩

/-- an array of three integers of one kind -/
theorem open_three_ints {r : Reach} {b0 : Nat} {t e : TypeId} {k : IntKind} {v : Value} {d : DataW H} {p : List MemPlace} (ht : P.underlying t = some (.array 3 e)) (he : P.underlying e = some (.int k)) (hC : P.cellsOf e = 1) (hCt : P.cellsOf t = 3)
    (hv : Value.okWide P w r b0 t v) (h : DataW.Trod enc P w base spare held t v d p) : ∃ a b c : Int, v = .agg #[.int k a, .int k b, .int k c] ∧ (Lit.int k a).wf = true ∧ (Lit.int k b).wf = true ∧ (Lit.int k c).wf = true := by
  obtain ⟨cs, rfl, hsz⟩ := okWide_array ht hv
  obtain ⟨l⟩ := cs
  obtain ⟨c0, c1, c2, rfl⟩ := list_three (l := l) (by rw [hCt] at hsz; exact hsz)
  obtain ⟨fuel, hf⟩ := h
  obtain ⟨xs, m, _, _, _, hlen, hg⟩ := DataW.trod_array ht hf
  obtain ⟨x0, x1, x2, rfl⟩ := list_three hlen
  have g0 := hg 0 (by omega)
  have g1 := hg 1 (by omega)
  have g2 := hg 2 (by omega)
  rw [hC] at g0 g1 g2
  obtain ⟨a, ha, _, hs⟩ := DataW.trod_int he g0
  obtain ⟨b, hb, _, hs'⟩ := DataW.trod_int he g1
  obtain ⟨c, hc, _, hs''⟩ := DataW.trod_int he g2
  simp [Value.cells] at ha hb hc
  exact ⟨a, b, c, by rw [ha, hb, hc], hs, hs', hs''⟩
end
end Go.Proofs.Ytildhamfnfifjaa

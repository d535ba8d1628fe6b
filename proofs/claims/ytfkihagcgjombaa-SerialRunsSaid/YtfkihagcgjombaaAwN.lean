/- Lists: what a round of a loop adds. No program's fact stands here. -/
import Derived.Test.YtfkihagcgjombaaAwM
namespace Go.Proofs.Ytfkihagcgjombaa
open Go.RowKit

section
variable {α β : Type}
theorem take_at {l : List α} {i : Nat} {x : α} (h : l[i]? = some x) : l.take (i + 1) = l.take i ++ [x] := by
  rw [List.take_add_one, h]; rfl
theorem lt_at {l : List α} {i : Nat} {x : α} (h : l[i]? = some x) : i < l.length := (List.getElem?_eq_some_iff.1 h).1
theorem filter_at {l : List α} {i : Nat} {x : α} (p : α → Bool) (h : l[i]? = some x) : (l.take (i + 1)).filter p = (l.take i).filter p ++ if p x then [x] else [] := by
  rw [take_at h, List.filter_append]
  cases hp : p x <;> simp [hp]
theorem map_at {l : List α} {i : Nat} {x : α} (f : α → β) (h : l[i]? = some x) : (l.take (i + 1)).map f = (l.take i).map f ++ [f x] := by
  rw [take_at h, List.map_append]; rfl
theorem fmap_at {l : List α} {i : Nat} {x : α} (f : α → Option β) (h : l[i]? = some x) : (l.take (i + 1)).filterMap f = (l.take i).filterMap f ++ (f x).toList := by
  rw [take_at h, List.filterMap_append]
  cases hf : f x <;> simp [hf]
theorem flen_le (l : List α) (i : Nat) (p : α → Bool) : ((l.take i).filter p).length ≤ l.length := by
  have h1 := List.length_filter_le p (l.take i)
  have h2 : (l.take i).length ≤ l.length := by simp; omega
  omega
theorem flen_lt {l : List α} {i : Nat} (hi : i < l.length) (p : α → Bool) : ((l.take i).filter p).length < l.length := by
  have h1 := List.length_filter_le p (l.take i)
  have h2 : (l.take i).length < l.length := by simp; omega
  omega
theorem mlen_le (l : List α) (i : Nat) (f : α → Option β) : ((l.take i).filterMap f).length ≤ l.length := by
  have h1 := List.length_filterMap_le f (l.take i)
  have h2 : (l.take i).length ≤ l.length := by simp; omega
  omega
theorem take_end {l : List α} {i : Nat} (h : ¬ i < l.length) : l.take i = l := List.take_of_length_le (by omega)
theorem ne_at {l m : List α} {i : Nat} {x y : α} (hx : l[i]? = some x) (hy : m[i]? = some y) (h : x ≠ y) : l ≠ m := by
  rintro rfl
  rw [hx] at hy
  exact h (Option.some.inj hy)
theorem eq_end {l m : List α} {i : Nat} (h : l.take i = m.take i) (hi : ¬ i < l.length) (hl : l.length = m.length) : l = m := by
  rwa [take_end hi, take_end (by omega)] at h
theorem eq_next {l m : List α} {i : Nat} {x y : α} (h : l.take i = m.take i) (hx : l[i]? = some x) (hy : m[i]? = some y) (he : x = y) : l.take (i + 1) = m.take (i + 1) := by
  rw [take_at hx, take_at hy, h, he]
theorem find_at {l : List α} {i : Nat} {x : α} {p : α → Bool} (h : (l.take i).find? p = none) (hx : l[i]? = some x) : (l.take (i + 1)).find? p = if p x then some x else none := by
  rw [take_at hx, List.find?_append, h]
  cases hp : p x <;> simp [hp]
theorem find_in {l : List α} {i : Nat} {x : α} {p : α → Bool} (h : (l.take i).find? p = none) (hx : l[i]? = some x) (hp : p x = true) : l.find? p = some x := by
  have e : l = l.take (i + 1) ++ l.drop (i + 1) := (List.take_append_drop _ _).symm
  rw [e, List.find?_append, find_at h hx, if_pos hp]
  rfl
theorem find_out {l : List α} {i : Nat} {p : α → Bool} (h : (l.take i).find? p = none) (hi : ¬ i < l.length) : l.find? p = none := by rwa [take_end hi] at h
end
theorem map_rows {α : Type} (f : α → List AV) (l : List α) : (l.map f).length = l.length := List.length_map f
theorem flat_map {α : Type} {f : α → List AV} (h : ∀ a, ∀ c ∈ f a, c.flat = true) (l : List α) : flatRows (l.map f) := by
  intro x hx
  obtain ⟨a, _, rfl⟩ := List.mem_map.1 hx
  exact h a
theorem ex_and {r : AV} {p q : AV → Prop} (h1 : p r) (h2 : q r) : ∃ r, p r ∧ q r := ⟨r, h1, h2⟩
theorem Good.eq {P : Program} {f : FuncId} {args : List AV} {r r' : AV} (h : Good P f args r) (he : r = r') : Good P f args r' := he ▸ h
end Go.Proofs.Ytfkihagcgjombaa

/- '[]byte(s)' as the walk meets it: a new row of the text's bytes. -/
import Derived.Test.YtkcdeefnkbbacaaNum
import Derived.Lib.ConvBytes
namespace Go.Proofs.Ytkcdeefnkbbacaa
open Go.RowKit

/-- the world behind '[]byte(s)', and the new row's capacity -/
def bytesW (w : World) (l : List UInt8) : World := Lib.bytesWorld w 5 (str l)
def bytesC (w : World) (l : List UInt8) : Nat := grownCap w l.length 0 5
theorem run_to_bytes (l : List UInt8) (w : World) : (convert 9 109 (.string (str l))).run Try.prog w = .ok (.slice (some ⟨w.heap.size, 0, none⟩) l.length (bytesC w l)) (bytesW w l) :=
  Lib.run_convert_string_bytes w 9 109 5 (str l) Try.underlying9 Try.underlying109 Try.underlying5
theorem bytesW_size (w : World) (l : List UInt8) : (bytesW w l).heap.size = w.heap.size + 1 := Lib.bytesWorld_size w _ _
theorem bytesW_cell (w : World) (l : List UInt8) (j : Nat) (h : j < l.length) : (bytesW w l).cell? ⟨w.heap.size, j, none⟩ = some (.int .u8 (l[j].toNat : Int)) := by
  have := Lib.bytesWorld_cell w 5 (str l) j h
  rw [str_data] at this
  unfold bytesW
  rw [this]
  simp [List.getD, h]
theorem bytesW_free (w : World) (l : List UInt8) (j : Nat) (h : j < l.length) : (bytesW w l).frozen? ⟨w.heap.size, j, none⟩ = false := by
  have hh := Lib.bytesWorld_at_new w 5 (str l)
  have hs : l.length ≤ (Lib.bytesCells w 5 (str l)).size := by
    simp [Lib.bytesCells, str]
  unfold bytesW World.frozen?
  rw [hh]
  simp; omega
theorem bytesW_below (w : World) (l : List UInt8) : Below w.heap.size w (bytesW w l) :=
  ⟨by simp [bytesW, Lib.bytesWorld, World.freeze]; rfl, by simp [bytesW, Lib.bytesWorld, World.freeze], by simp [bytesW, Lib.bytesWorld, World.freeze]; rfl, by rw [bytesW_size]; omega, fun k hk => Lib.bytesWorld_at_old w _ _ k hk⟩
/-- the cells from the head of block g on are these bytes -/
def CellsAre (w : World) (g : Nat) (l : List UInt8) : Prop := ∀ j u, (bcells l)[j]? = some u → w.cell? ⟨g, j, none⟩ = some u
theorem bytesW_cells (w : World) (l : List UInt8) : CellsAre (bytesW w l) w.heap.size l := by
  intro j u hj
  have hjl : j < l.length := by
    have := (List.getElem?_eq_some_iff.1 hj).1
    simpa [bcells] using this
  rw [bytesW_cell w l j hjl]
  simp [bcells, hjl] at hj
  rw [hj]
theorem CellsAre.drew {w : World} {g : Nat} {l : List UInt8} (h : CellsAre w g l) : CellsAre w.drew g l := h
/-- a byte stored into such a row -/
theorem CellsAre.store {w : World} {g : Nat} {l : List UInt8} (h : CellsAre w g l) (p : Nat) (b : UInt8) (hp : p < l.length) : CellsAre (w.setCell ⟨g, p, none⟩ (.int .u8 (b.toNat : Int))) g (l.set p b) := by
  intro j u hj
  have hjl : j < l.length := by
    have := (List.getElem?_eq_some_iff.1 hj).1
    simpa [bcells] using this
  by_cases hpj : p = j
  · subst hpj
    have h0 := h p _ (List.getElem?_eq_getElem (by simpa [bcells] using hp))
    rw [World.cell?_setCell_same (h := h0)]
    simp [bcells, hjl] at hj
    rw [hj]
  · rw [World.cell?_setCell_other _ _ _ _ (by intro e; injection e with _ e2; exact hpj e2)]
    apply h
    simp [bcells, hpj] at hj ⊢
    exact hj
theorem CellsAre.text {w : World} {g n cap : Nat} {l : List UInt8} (h : CellsAre w g l) (hl : l.length = n) :
    (convert 109 9 (.slice (some ⟨g, 0, none⟩) n cap)).run Try.prog w = .ok (.string (str l)) w :=
  run_string_of w ⟨g, 0, none⟩ n cap l hl (fun j u hj => by rw [Addr.add_lit, Nat.zero_add]; exact h j u hj)
end Go.Proofs.Ytkcdeefnkbbacaa

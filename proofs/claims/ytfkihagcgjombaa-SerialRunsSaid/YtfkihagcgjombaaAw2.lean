/- The state as data, and how it stands to a frame and a world. No program's fact stands here. -/
import Derived.Test.YtfkihagcgjombaaAw1
namespace Go.Proofs.Ytfkihagcgjombaa
open Go.RowKit

structure St where
  v : List AV
  b : List (Option Box)

def St.get (σ : St) (t : Nat) : AV := σ.v.getD t .top
def St.set (σ : St) (t : Nat) (a : AV) : St := ⟨σ.v.set t a, σ.b⟩
def St.setD (σ : St) (t : Option Nat) (a : AV) : St := match t with | some t => σ.set t a | none => σ
def St.setB (σ : St) (x : Option (Nat × Option Box)) : St := match x with | some (b, x) => ⟨σ.v, σ.b.set b x⟩ | none => σ

theorem St.get_set (σ : St) (t u : Nat) (a : AV) : (σ.set t a).get u = if t = u ∧ t < σ.v.length then a else σ.get u := by
  unfold St.get St.set
  simp only [List.getD_eq_getElem?_getD, List.getElem?_set]
  by_cases h : t = u
  · subst h
    by_cases h2 : t < σ.v.length
    · simp [h2]
    · simp [h2]
  · simp [h]
theorem St.get_setB (σ : St) (x : Option (Nat × Option Box)) (u : Nat) : (σ.setB x).get u = σ.get u := by cases x <;> rfl
theorem St.v_setB (σ : St) (x : Option (Nat × Option Box)) : (σ.setB x).v = σ.v := by cases x <;> rfl
theorem St.len_set (σ : St) (t : Nat) (a : AV) : (σ.set t a).v.length = σ.v.length := by simp [St.set]
theorem St.len_setD (σ : St) (t : Option Nat) (a : AV) : (σ.setD t a).v.length = σ.v.length := by cases t <;> simp [St.setD, St.set]
theorem St.b_set (σ : St) (t : Nat) (a : AV) : (σ.set t a).b = σ.b := rfl
theorem St.b_setD (σ : St) (t : Option Nat) (a : AV) : (σ.setD t a).b = σ.b := by cases t <;> rfl

structure Rel (g : Gh) (w0 : World) (I0 : Cells) (σ : St) (a : Act) (w : World) : Prop where
  below : Below g.base w0 w
  size : g.base = w0.heap.size
  old : ∀ b o, b < g.base → (g.I b o ↔ I0 b o)
  ex : ∀ b o, g.I b o → ∃ u, w.cell? ⟨b, o, none⟩ = some u
  defers : a.defers = []
  len : a.tmps.size = σ.v.length
  slots : ∀ t, SlotR g w t (σ.get t) (a.tmps.getD t undef)
  boxes : ∀ b x, σ.b[b]? = some (some x) → BoxR g w b x
  refs : ∀ t b, (σ.get t).ref = some b → ∃ x, σ.b[b]? = some (some x)

theorem put_get (a : Act) (t u : Nat) (v : Value) : ((a.put (some t) v).tmps).getD u undef = if t = u ∧ t < a.tmps.size then v else a.tmps.getD u undef := by
  simp only [Act.put, Array.getD_eq_getD_getElem?, Array.getElem?_setIfInBounds]
  by_cases h : t = u
  · subst h
    by_cases h2 : t < a.tmps.size
    · simp [h2]
    · simp [h2]
  · simp [h]
theorem put_size (a : Act) (d : Option Nat) (v : Value) : (a.put d v).tmps.size = a.tmps.size := by cases d <;> simp [Act.put]
theorem put_defers (a : Act) (d : Option Nat) (v : Value) : (a.put d v).defers = a.defers := by cases d <;> rfl

theorem SlotR.top (g : Gh) (w : World) (t : Nat) (v : Value) : SlotR g w t .top v := LocR.top g w _ v
theorem LocR.of_rd {g : Gh} {w : World} {L : Loc} {a : AV} {v : Value} (h : Rd g.I w a v) (hn : ∀ es xs, a ≠ .sl .own es xs) : LocR g w L a v := ⟨h, fun es xs he => absurd he (hn es xs)⟩
theorem LocR.slot {g : Gh} {w : World} {t : Nat} {a : AV} {v : Value} (h : LocR g w (.slot t 0) a v) : SlotR g w t a v := by
  cases a with
  | ptr => cases h.1
  | eptr => cases h.1
  | bsl => cases h.1
  | tuple => cases h.1
  | mp => cases h.1
  | _ => exact h

/-- a copy of what a temporary holds: read alone -/
def AV.cpy : AV → AV
  | .tuple vs => .tuple (vs.map AV.share)
  | a => a.share

theorem SlotR.cpy {g : Gh} {w : World} {t u : Nat} {a : AV} {v : Value} (h : SlotR g w t a v) : SlotR g w u a.cpy v := by
  cases a with
  | ptr => exact h
  | eptr => exact h
  | bsl => exact h
  | tuple vs =>
    obtain ⟨us, hv, hl, hc⟩ := h
    refine ⟨us, hv, by simpa using hl, fun j c u' h1 h2 => ?_⟩
    rw [List.getElem?_map] at h1
    obtain ⟨c', h3, rfl⟩ := Option.map_eq_some_iff.1 h1
    exact (hc j c' u' h3 h2).share
  | top => exact SlotR.top _ _ _ _
  | mp f => exact SlotR.top _ _ _ _
  | bool b => exact LocR.slot (LocR.share h)
  | int k n => exact LocR.slot (LocR.share h)
  | str s => exact LocR.slot (LocR.share h)
  | sl p es xs => exact LocR.slot (LocR.share h)
  | agg cs => exact LocR.slot (LocR.share h)
  | fn f => exact LocR.slot (LocR.share h)

theorem AV.ref_cpy (a : AV) : a.cpy.ref = a.ref := by
  cases a with
  | sl p es xs => cases p <;> rfl
  | _ => rfl
theorem AV.ref_share (a : AV) : a.share.ref = a.ref := by
  cases a with
  | sl p es xs => cases p <;> rfl
  | _ => rfl

/-- the plain values: a cell's, or a struct's -/
theorem SlotR.rd {g : Gh} {w : World} {t : Nat} {a : AV} {v : Value} (h : SlotR g w t a v) (h1 : a.ref = none) (h2 : ∀ cs off, a ≠ .eptr cs off) (h3 : ∀ vs, a ≠ .tuple vs) (h4 : ∀ f, a ≠ .mp f) : LocR g w (.slot t 0) a v := by
  cases a with
  | ptr => cases h1
  | bsl => cases h1
  | eptr cs off => exact absurd rfl (h2 cs off)
  | tuple vs => exact absurd rfl (h3 vs)
  | mp f => exact absurd rfl (h4 f)
  | _ => exact h

/-- a temporary is written, the memory stays -/
theorem Rel.put {g : Gh} {w0 : World} {I0 : Cells} {σ : St} {a : Act} {w : World} (h : Rel g w0 I0 σ a w) (d : Option Nat) (x : AV) (v : Value)
    (hv : ∀ t, d = some t → SlotR g w t x v) (hr : ∀ b, x.ref = some b → ∃ y, σ.b[b]? = some (some y)) : Rel g w0 I0 (σ.setD d x) (a.put d v) w := by
  cases d with
  | none => exact h
  | some d =>
    refine ⟨h.below, h.size, h.old, h.ex, by rw [put_defers]; exact h.defers, by rw [put_size, St.len_setD]; exact h.len, fun t => ?_, h.boxes, fun t b hb => ?_⟩
    · rw [put_get]
      show SlotR g w t ((σ.set d x).get t) _
      rw [St.get_set]
      have := h.len
      by_cases hd : d = t ∧ d < σ.v.length
      · rw [if_pos hd, if_pos (by omega)]
        obtain ⟨rfl, _⟩ := hd
        exact hv _ rfl
      · rw [if_neg hd, if_neg (by omega)]
        exact h.slots t
    · have hb' : ((σ.set d x).get t).ref = some b := hb
      rw [St.get_set] at hb'
      split at hb'
      · exact hr b hb'
      · exact h.refs t b hb'

/-- the memory has grown, and what every location has is as it was -/
structure Grew (g : Gh) (w : World) (g' : Gh) (w' : World) : Prop where
  below : Below g.base w w'
  base : g'.base = g.base
  bx : g'.bx = g.bx
  old : ∀ b o, b < g.base → (g'.I b o ↔ g.I b o)
  ex : ∀ b o, g'.I b o → ∃ u, w'.cell? ⟨b, o, none⟩ = some u
  keep : ∀ L, Keep g w g' w' L

theorem Rel.grew {g g' : Gh} {w0 : World} {I0 : Cells} {σ : St} {a : Act} {w w' : World} (h : Rel g w0 I0 σ a w) (hg : Grew g w g' w') : Rel g' w0 I0 σ a w' :=
  ⟨by rw [hg.base]; exact h.below.trans hg.below, by rw [hg.base]; exact h.size, fun b o hb => (hg.old b o (by rw [← hg.base]; exact hb)).trans (h.old b o (by rw [← hg.base]; exact hb)), hg.ex, h.defers, h.len,
    fun t => (h.slots t).keep (fun j => hg.keep _) (fun b _ => by rw [hg.bx]) (fun b _ hlt => (hg.keep (.box b)).ob hlt), fun b x hb => (h.boxes b x hb).keep (hg.keep _) (fun i k => hg.keep _), h.refs⟩

theorem cell?_of_heap {w w' : World} {b : Nat} (h : w'.heap[b]? = w.heap[b]?) (o : Nat) : w'.cell? ⟨b, o, none⟩ = w.cell? ⟨b, o, none⟩ := by simp [World.cell?, h]
theorem Rel.I_lt {g : Gh} {w0 : World} {I0 : Cells} {σ : St} {a : Act} {w : World} (h : Rel g w0 I0 σ a w) {b o : Nat} (hi : g.I b o) : b < w.heap.size := by
  obtain ⟨u, hu⟩ := h.ex b o hi
  exact block_lt_of_cell hu

/-- new blocks alone: which cells of them stay, and whose they are, is free -/
theorem Rel.fresh {g : Gh} {w0 : World} {I0 : Cells} {σ : St} {a : Act} {w : World} (h : Rel g w0 I0 σ a w) (w' : World) (X : Cells) (o' : Nat → Loc)
    (hb : Below w.heap.size w w') (hX : ∀ b o, X b o → w.heap.size ≤ b ∧ ∃ u, w'.cell? ⟨b, o, none⟩ = some u) :
    Grew g w ⟨g.base, fun b o => g.I b o ∨ X b o, fun b => if b < w.heap.size then g.ow b else o' b, g.bx⟩ w' := by
  have hbs : g.base ≤ w.heap.size := by rw [h.size]; exact h.below.size
  refine ⟨hb.mono hbs, rfl, rfl, fun b o hlt => ⟨fun hi => hi.resolve_right fun hx => ?_, .inl⟩, fun b o hi => ?_, fun L => ⟨rfl, fun _ _ => rfl, fun b o hi => .inl hi, fun b o hi => cell?_of_heap (hb.block b (h.I_lt hi)) o, fun b hlt hL => ⟨by simp [hlt, hL], hb.block b hlt, fun o hi => hi.resolve_right fun hx => ?_⟩, SzS.old fun b hlt => hb.block b hlt⟩⟩
  · have := (hX b o hx).1; omega
  · rcases hi with hi | hi
    · obtain ⟨u, hu⟩ := h.ex b o hi
      exact ⟨u, (cell?_of_heap (hb.block b (h.I_lt hi)) o).trans hu⟩
    · exact (hX b o hi).2
  · have := (hX b o hx).1; omega
theorem Rel.drew {g : Gh} {w0 : World} {I0 : Cells} {σ : St} {a : Act} {w : World} (h : Rel g w0 I0 σ a w) : Rel g w0 I0 σ a w.drew :=
  h.grew ⟨(Below.refl _ _).drew, rfl, rfl, fun _ _ _ => Iff.rfl, h.ex, fun _ => ⟨rfl, fun _ _ => rfl, fun _ _ h => h, fun _ _ _ => rfl, fun _ _ h => ⟨h, rfl, fun _ h => h⟩, SzS.refl _⟩⟩
end Go.Proofs.Ytfkihagcgjombaa

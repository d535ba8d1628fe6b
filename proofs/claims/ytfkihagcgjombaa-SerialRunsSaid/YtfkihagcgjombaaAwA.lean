/- Boxes are made, written, and what they hold is taken. No program's fact stands here. -/
import Derived.Test.YtfkihagcgjombaaAw9
namespace Go.Proofs.Ytfkihagcgjombaa
open Go.RowKit

section
variable {P : Program} {g : Gh} {w0 : World} {I0 : Cells} {σ : St} {a : Act} {w : World}

/-- a box is changed: its block alone -/
theorem Rel.boxed (h : Rel g w0 I0 σ a w) (g' : Gh) (w' : World) (b : Nat) (x : Box) (hlt : b < σ.b.length)
    (hbelow : Below g.base w w') (hbase : g'.base = g.base) (hI : g'.I = g.I) (hex : ∀ c o, g.I c o → ∃ u, w'.cell? ⟨c, o, none⟩ = some u)
    (hbx : ∀ c, c ≠ b → g'.bx c = g.bx c) (hkeep : ∀ L, (∀ t j, L ≠ .slot t j ∨ g.ow = g'.ow ∨ True) → L ≠ .box b → (∀ i k, L ≠ .cell b i k) → Keep g w g' w' L)
    (hnew : BoxR g' w' b x) (hself : σ.b[b]? = some none ∨ (g'.bx b = g.bx b ∧ (OwB g b → OwB g' b))) : Rel g' w0 I0 (σ.setB (some (b, some x))) a w' := by
  refine ⟨by rw [hbase]; exact h.below.trans hbelow, by rw [hbase]; exact h.size, fun c o hc => by rw [hI]; exact h.old c o (by rw [← hbase]; exact hc), fun c o hc => hex c o (by rw [← hI]; exact hc), h.defers, h.len, fun t => ?_, fun c y hc => ?_, fun t c hc => ?_⟩
  · rw [St.get_setB]
    refine (h.slots t).keep (fun j => hkeep _ (fun _ _ => .inr (.inr trivial)) (by simp) (by simp)) (fun c hc => ?_) (fun c hc hlt2 ho => ?_)
    · by_cases hcb : c = b
      · subst hcb
        rcases hself with hself | hself
        · obtain ⟨z, hz⟩ := h.refs t c hc
          rw [hself] at hz; cases hz
        · exact hself.1
      · exact hbx c hcb
    · by_cases hcb : c = b
      · subst hcb
        rcases hself with hself | hself
        · obtain ⟨z, hz⟩ := h.refs t c hc
          rw [hself] at hz; cases hz
        · exact hself.2 ho
      · exact (hkeep (.box c) (fun _ _ => .inr (.inr trivial)) (by simp; exact hcb) (by simp)).ob hlt2 ho
  · have hc' : (σ.b.set b (some x))[c]? = some (some y) := hc
    rw [List.getElem?_set] at hc'
    split at hc'
    · rename_i hbc
      subst hbc
      cases hc'
      exact hnew
    · rename_i hbc
      exact (h.boxes c y hc').keep (hkeep _ (fun _ _ => .inr (.inr trivial)) (by simp; exact fun he => hbc he.symm) (by simp)) (fun i k => hkeep _ (fun _ _ => .inr (.inr trivial)) (by simp) (by simp; exact fun he => absurd he.symm hbc))
  · rw [St.get_setB] at hc
    show ∃ z, (σ.b.set b (some x))[c]? = some (some z)
    rw [List.getElem?_set]
    by_cases hbc : b = c
    · subst hbc
      rw [if_pos rfl, if_pos hlt]
      exact ⟨x, rfl⟩
    · rw [if_neg hbc]
      exact h.refs t c hc

theorem app_box (σ : St) (d : Option Nat) (v : AV) (bx : Option (Nat × Option Box)) : σ.app d v none bx = (σ.setB bx).setD d v := rfl

/-- a new box -/
theorem Rel.newBox (h : Rel g w0 I0 σ a w) {b : Nat} (hb : σ.b[b]? = some none) (es : Nat) (l : List AV) (cs : Array Value) (e : TypeId) (hl : l.length = es) (hsz : cs.size = l.length) (hone : ∀ u ∈ cs, u.oneCell' = true) (hloc : ∀ (k : Nat) c u, l[k]? = some c → cs[k]? = some u → ∀ L, LocR g w L c u ∧ ∀ g' w', Rd g'.I w' c u → LocR g' w' L c u) :
    ∃ g', Rel g' w0 I0 (σ.setB (some (b, some ⟨true, es, [l]⟩))) a (w.alloc (.cells cs e)) ∧ g'.bx b = w.heap.size := by
  have hlt : b < σ.b.length := (List.getElem?_eq_some_iff.1 hb).1
  have hbs : g.base ≤ w.heap.size := by rw [h.size]; exact h.below.size
  let g' : Gh := ⟨g.base, g.I, fun c => if c = w.heap.size then .box b else g.ow c, fun c => if c = b then w.heap.size else g.bx c⟩
  have hold : ∀ c, c < w.heap.size → (w.alloc (.cells cs e)).heap[c]? = w.heap[c]? := fun c hc => heap_alloc_old w _ hc
  have hcell : ∀ c o, g.I c o → (w.alloc (.cells cs e)).cell? ⟨c, o, none⟩ = w.cell? ⟨c, o, none⟩ := fun c o hi => cell?_of_heap (hold c (h.I_lt hi)) o
  have hkeep : ∀ L, L ≠ .box b → Keep g w g' (w.alloc (.cells cs e)) L := fun L hL => by
    refine ⟨rfl, fun c hc => ?_, fun _ _ h => h, hcell, fun c hlt hc => ⟨?_, hold c hlt, fun _ h => h⟩, SzS.old hold⟩
    · show (if c = b then w.heap.size else g.bx c) = g.bx c
      rw [if_neg (by intro he; subst he; exact hL hc)]
    · show (if c = w.heap.size then .box b else g.ow c) = L
      rw [if_neg (by omega)]; exact hc
  refine ⟨g', h.boxed g' _ b ⟨true, es, [l]⟩ hlt ((Below.refl _ _).alloc hbs _) rfl rfl (fun c o hi => ?_) (fun c hc => by show (if c = b then _ else _) = _; rw [if_neg hc]) (fun L _ hL _ => hkeep L hL) ?_ (.inl hb), ?_⟩
  · obtain ⟨u, hu⟩ := h.ex c o hi
    exact ⟨u, (hcell c o hi).trans hu⟩
  · have e1 : g'.bx b = w.heap.size := by show (if b = b then _ else _) = _; rw [if_pos rfl]
    refine .inr ⟨cs, e, by rw [e1]; exact heap_alloc_new w _, by rw [e1]; exact hbs, ?_, ?_, fun o hi => ?_, fun x hx => ?_, fun j k x c hj hk => ?_⟩
    · rw [e1]; show (if w.heap.size = w.heap.size then _ else _) = _; rw [if_pos rfl]
    · simp; omega
    · rw [e1] at hi
      exact absurd (h.I_lt hi) (by omega)
    · simp at hx; subst hx; exact hl
    · cases j with
      | succ j => simp at hj
      | zero =>
        simp at hj
        subst hj
        have hk' : k < cs.size := by have := (List.getElem?_eq_some_iff.1 hk).1; omega
        have hu : cs[k]? = some cs[k] := Array.getElem?_eq_getElem hk'
        obtain ⟨h1, h2⟩ := hloc k c _ hk hu (.cell b 0 k)
        exact ⟨cs[k], by simp, hone _ (Array.getElem_mem hk'), h2 _ _ (h1.rd.mono (fun _ _ h => h) hcell)⟩
  · show (if b = b then _ else _) = _; rw [if_pos rfl]

theorem snd_alloc (h : Rel g w0 I0 σ a w) {o : Oper} {t : TypeId} {b es : Nat} {zero : List AV} (ho : o.op = .alloc t) (ht : zeroT P t zero = true) (hes : zero.length = es) {K : Cont}
    {G : Goods} (hs : (AOp.alloc b es zero).sem G σ.get σ.b K) : Told P w0 I0 σ a w o K := by
  intro next Q hK
  simp only [AOp.sem] at hs
  split at hs
  · rename_i hb
    obtain ⟨i, z, hi, hz, hco, hsz⟩ := zeroT_inv ht
    have hcc : CellsR g w zero z.cells := consts_cellsR hco
    obtain ⟨g', hrel, hbx⟩ := h.newBox hb es zero z.cells t hes hcc.len.symm hcc.one (fun k c u hk hu L => ⟨(constsOK_rel hco).2.2 k c u hk (by simpa using hu) L, fun g' w' _ => (constsOK_rel hco).2.2 k c u hk (by simpa using hu) L⟩)
    have hrun : (execOp a.eval o).run P w = .ok (.value (.pointer (some ⟨w.heap.size, 0, none⟩))) (w.alloc (.cells z.cells t)) := by
      simp [execOp, ho, Instr.alloc, zeroValue, typeInfo, hi, hz, newVar, newRow]
    refine wp_val hrun (hK _ _ _ hs _ _ _ (hrel.put o.dst (.ptr b es 0 0) _ (fun t _ => ?_) (fun c hc => ?_)))
    · show _ = _; rw [hbx]; simp
    · cases hc
      refine ⟨⟨true, es, [zero]⟩, ?_⟩
      show (σ.b.set b _)[b]? = _
      rw [List.getElem?_set, if_pos rfl, if_pos (List.getElem?_eq_some_iff.1 hb).1]
  · cases hs

theorem Rd.up {I : Cells} {w : World} {c : AV} {u : Value} (h : Rd I w c u) : Rd I w c.up u := by
  cases h with
  | sl p es xs base cap u hcap hmax hclip hnil hes hb hr =>
    cases p <;> exact .sl _ es xs base cap u hcap hmax (by simp_all) (by simp_all) hes hb hr
  | top => exact .top _
  | bool b => exact .bool b
  | int k n => exact .int k n
  | str s h => exact .str s h
  | fn f => exact .fn f
  | agg cs vs hl h1 h => exact .agg cs vs hl h1 h
theorem up_loc {g' : Gh} {w' : World} {c : AV} {u : Value} (h : Rd g'.I w' c u) (L : Loc) : LocR g' w' L c.up u := by
  refine ⟨h.up, fun es xs he => ?_⟩
  cases h with
  | sl p es xs base cap u hcap hmax hclip hnil hes hb hr =>
    cases p with
    | nil =>
      obtain ⟨rfl, rfl⟩ := hnil rfl
      have : xs.length = 0 := by omega
      exact .inl (by rw [this])
    | _ => simp [AV.up] at he
  | _ => simp [AV.up] at he
/-- being up is of the value alone -/
theorem up_any {c : AV} {u : Value} {I : Cells} {w' : World} (h : Rd I w' c u) (g' : Gh) (w2 : World) (L : Loc) (h2 : Rd g'.I w2 c.up u) : LocR g' w2 L c.up u := by
  refine ⟨h2, fun es xs he => ?_⟩
  cases h with
  | sl p es xs base cap u hcap hmax hclip hnil hes hb hr =>
    cases p with
    | nil =>
      obtain ⟨rfl, rfl⟩ := hnil rfl
      have : xs.length = 0 := by omega
      exact .inl (by rw [this])
    | _ => simp [AV.up] at he
  | _ => simp [AV.up] at he

theorem snd_box (h : Rel g w0 I0 σ a w) {o : Oper} {t : TypeId} {b es : Nat} {x : Arg} {x' : Operand} (ho : o.op = .box t x') (hx : chkArg x x' = true) {K : Cont}
    {G : Goods} (hs : (AOp.box b es x).sem G σ.get σ.b K) : Told P w0 I0 σ a w o K := by
  intro next Q hK
  obtain ⟨tx, hx'⟩ := h.arg hx
  simp only [AOp.sem] at hs
  split at hs
  · rename_i hb
    generalize hX : x.ev σ.get = X at hs hx'
    have key : X.plain = true → X.cells.length = es → K (.ptr b es 0 0) none (some (b, some ⟨true, es, [X.cells.map AV.up]⟩)) → o.wp P a w next Q := fun hpl hl hk => by
      have hrd := (plain_inv hpl hx').rd
      obtain ⟨h1, h2, h3⟩ := cells_rd hpl hrd
      obtain ⟨g', hrel, hbx⟩ := h.newBox hb es (X.cells.map AV.up) (a.eval x').cells t (by simpa using hl) (by simp; omega) h2 (fun k c u hk hu L => by
        rw [List.getElem?_map] at hk
        obtain ⟨c', hc', rfl⟩ := Option.map_eq_some_iff.1 hk
        have := h3 k c' u hc' hu
        exact ⟨up_loc this L, fun g' w' h' => up_any this g' w' L h'⟩)
      have hrun : (execOp a.eval o).run P w = .ok (.value (.pointer (some ⟨w.heap.size, 0, none⟩))) (w.alloc (.cells (a.eval x').cells t)) := by
        simp [execOp, ho, Instr.box, newVar, newRow]
      refine wp_val hrun (hK _ _ _ hk _ _ _ (hrel.put o.dst (.ptr b es 0 0) _ (fun t _ => ?_) (fun c hc => ?_)))
      · show _ = _; rw [hbx]; simp
      · cases hc
        refine ⟨⟨true, es, [X.cells.map AV.up]⟩, ?_⟩
        show (σ.b.set b _)[b]? = _
        rw [List.getElem?_set, if_pos rfl, if_pos (List.getElem?_eq_some_iff.1 hb).1]
    cases X with
    | agg cs =>
      simp only at hs
      split at hs
      · rw [frcL_eq] at hs
        exact key rfl (by assumption) hs
      · cases hs
    | bool v => simp only [frcL_eq] at hs; split at hs <;> first | exact key rfl (by simp [AV.cells]; omega) hs | cases hs
    | int k v => simp only [frcL_eq] at hs; split at hs <;> first | exact key rfl (by simp [AV.cells]; omega) hs | cases hs
    | str v => simp only [frcL_eq] at hs; split at hs <;> first | exact key rfl (by simp [AV.cells]; omega) hs | cases hs
    | sl p e v =>
      simp only [frcL_eq] at hs
      split at hs
      · refine key rfl (by simp [AV.cells]; omega) ?_
        cases p <;> exact hs
      · cases hs
    | _ => cases hs
  · cases hs
end
end Go.Proofs.Ytfkihagcgjombaa

/- Builds of structs and comparisons of structs are told rightly. No program's fact stands here. -/
import Derived.Test.YtfkihagcgjombaaAw7
import Derived.ChangeKeysEq
namespace Go.Proofs.Ytfkihagcgjombaa
open Go.RowKit

section
variable {P : Program} {g : Gh} {w0 : World} {I0 : Cells} {σ : St} {a : Act} {w : World}

/-- cells as data -/
structure CellsR (g : Gh) (w : World) (l : List AV) (cs : Array Value) : Prop where
  len : l.length = cs.size
  one : ∀ u ∈ cs, u.oneCell' = true
  rd : ∀ (k : Nat) c u, l[k]? = some c → cs[k]? = some u → Rd g.I w c u

theorem CellsR.put {l : List AV} {cs : Array Value} (h : CellsR g w l cs) {x : AV} {v : Value} (hp : x.plain = true) (hr : Rd g.I w x v) (off : Nat) :
    CellsR g w (putC l off x.cells) (v.cells.zipIdx.foldl (fun cs (p : Value × Nat) => cs.setIfInBounds (off + p.2) p.1) cs) := by
  obtain ⟨h1, h2, h3⟩ := cells_rd hp hr
  refine ⟨by rw [putC_length, foldset_size]; exact h.len, fun u hu => ?_, fun k c u hc hu => ?_⟩
  · obtain ⟨k, hk⟩ := Array.mem_iff_getElem?.1 hu
    rw [foldset_get] at hk
    split at hk
    · exact h2 u (Array.mem_of_getElem? hk)
    · exact h.one u (Array.mem_of_getElem? hk)
  · rw [putC_get] at hc
    rw [foldset_get] at hu
    rw [h1, h.len] at hc
    split at hc
    · rename_i hcond
      rw [if_pos hcond] at hu
      exact h3 _ _ _ hc hu
    · rename_i hcond
      rw [if_neg hcond] at hu
      exact h.rd _ _ _ hc hu

theorem fill_rel (place : Nat → Option (Nat × Nat)) : ∀ (ps : List (Nat × Nat × AV)) (parts : List (Nat × Value)) (l l' : List AV) (cs : Array Value), CellsR g w l cs → ps.length = parts.length →
    (∀ (i : Nat) p q, ps[i]? = some p → parts[i]? = some q → place q.1 = some (p.1, p.2.1) ∧ p.2.2.plain = true ∧ Rd g.I w p.2.2 q.2) → fillA l ps = some l' →
    ∃ cs', Instr.fill place cs parts = some cs' ∧ CellsR g w l' cs'
  | [], parts, l, l', cs, h, hl, _, hf => by
    have : parts = [] := List.eq_nil_of_length_eq_zero (by simpa using hl.symm)
    subst this
    cases hf
    exact ⟨cs, rfl, h⟩
  | (off, size, x) :: ps, parts, l, l', cs, h, hl, hp, hf => by
    cases parts with
    | nil => simp at hl
    | cons q parts =>
      obtain ⟨h1, h2, h3⟩ := hp 0 _ _ rfl rfl
      obtain ⟨hc1, hc2, hc3⟩ := cells_rd h2 h3
      unfold fillA at hf
      split at hf
      · rename_i e1 e2
        have e1' := Nat.eq_of_beq_eq_true e1
        have e2' : off + size ≤ l.length := Nat.le_of_ble_eq_true e2
        obtain ⟨cs', h4, h5⟩ := fill_rel place ps parts _ l' _ (h.put h2 h3 off) (by simpa using hl) (fun i p q h1 h2 => hp (i + 1) p q h1 h2) hf
        refine ⟨cs', ?_, h5⟩
        simp only at h1 hc1
        have e3 : q.2.cells.size = size := by rw [← hc1]; exact e1'
        have e4 := h.len
        obtain ⟨qi, qv⟩ := q
        simp only [Instr.fill, h1]
        simp only at e3
        rw [if_neg (by rw [e3, ← e4]; simp; omega)]
        exact h4
      · cases hf

def constsOK : List AV → List Value → Bool
  | [], [] => true
  | x :: xs, v :: vs => constOK x v && v.oneCell' && constsOK xs vs
  | _, _ => false
theorem constsOK_rel : ∀ {l : List AV} {vs : List Value}, constsOK l vs = true → l.length = vs.length ∧ (∀ u ∈ vs, u.oneCell' = true) ∧ ∀ (k : Nat) c u, l[k]? = some c → vs[k]? = some u → ∀ L, LocR g w L c u
  | [], [], _ => ⟨rfl, by simp, fun k c u h => by simp at h⟩
  | [], v :: vs, h => by simp [constsOK] at h
  | x :: xs, [], h => by simp [constsOK] at h
  | x :: xs, v :: vs, h => by
    simp only [constsOK, Bool.and_eq_true] at h
    obtain ⟨h1, h2, h3⟩ := constsOK_rel h.2
    refine ⟨by simp [h1], fun u hu => ?_, fun k c u hc hu L => ?_⟩
    · rcases List.mem_cons.1 hu with rfl | hu
      · exact h.1.2
      · exact h2 u hu
    · cases k with
      | zero => simp at hc hu; subst hc; subst hu; exact constOK_loc h.1.1 _ _ _
      | succ k => exact h3 k c u (by simpa using hc) (by simpa using hu) L
def zeroT (P : Program) (t : TypeId) (zero : List AV) : Bool :=
  match P.info? t with
  | some i => match i.zero with
    | some z => constsOK zero z.cells.toList && Nat.beq i.size zero.length
    | none => false
  | none => false
theorem zeroT_inv {t : TypeId} {zero : List AV} (h : zeroT P t zero = true) : ∃ i z, P.info? t = some i ∧ i.zero = some z ∧ constsOK zero z.cells.toList = true ∧ i.size = zero.length := by
  unfold zeroT at h
  split at h
  · rename_i i hi
    split at h
    · rename_i z hz
      simp only [Bool.and_eq_true] at h
      exact ⟨i, z, hi, hz, h.1, Nat.eq_of_beq_eq_true h.2⟩
    · cases h
  · cases h
theorem consts_cellsR {zero : List AV} {z : Value} (h : constsOK zero z.cells.toList = true) : CellsR g w zero z.cells := by
  obtain ⟨h1, h2, h3⟩ := constsOK_rel (g := g) (w := w) h
  exact ⟨by simpa using h1, by simpa using h2, fun k c u hc hu => (h3 k c u hc (by simpa using hu) .none).rd⟩

def psOK (place : Nat → Option (Nat × Nat)) : List (Nat × Nat × Arg) → List (Nat × Operand) → Bool
  | [], [] => true
  | p :: ps, q :: qs => (match place q.1 with | some (off, size) => Nat.beq off p.1 && Nat.beq size p.2.1 | none => false) && chkArg p.2.2 q.2 && psOK place ps qs
  | _, _ => false
theorem psOK_rel (h : Rel g w0 I0 σ a w) (place : Nat → Option (Nat × Nat)) : ∀ {ps : List (Nat × Nat × Arg)} {qs : List (Nat × Operand)}, psOK place ps qs = true → ps.length = qs.length ∧
    ∀ (i : Nat) p q, ps[i]? = some p → qs[i]? = some q → place q.1 = some (p.1, p.2.1) ∧ ∃ t, SlotR g w t (p.2.2.ev σ.get) (a.eval q.2)
  | [], [], _ => ⟨rfl, fun i p q h => by simp at h⟩
  | [], q :: qs, hc => by simp [psOK] at hc
  | p :: ps, [], hc => by simp [psOK] at hc
  | p :: ps, q :: qs, hc => by
    simp only [psOK, Bool.and_eq_true] at hc
    obtain ⟨h1, h2⟩ := psOK_rel h place hc.2
    refine ⟨by simp [h1], fun i p' q' hp hq => ?_⟩
    cases i with
    | zero =>
      simp at hp hq
      subst hp; subst hq
      refine ⟨?_, h.arg hc.1.2⟩
      have := hc.1.1
      split at this
      · rename_i off size he
        simp only [Bool.and_eq_true] at this
        rw [he, Nat.eq_of_beq_eq_true this.1, Nat.eq_of_beq_eq_true this.2]
      · cases this
    | succ i => exact h2 i p' q' (by simpa using hp) (by simpa using hq)
def bldT (P : Program) (t : TypeId) (zero : List AV) (ps : List (Nat × Nat × Arg)) (qs : List (Nat × Operand)) : Bool :=
  zeroT P t zero && match P.underlying t with
  | some (.array _ e) => match P.info? e with
    | some ie => psOK (fun i => some (i * ie.size, ie.size)) ps qs
    | none => false
  | some (.struct fields) => match fields.toList.mapM (fun f => (P.info? f.type).map fun i => (f.offset, i.size)) with
    | some places => psOK (places.toArray[·]?) ps qs
    | none => false
  | _ => false
theorem allPlain_inv : ∀ {l : List AV}, allPlain l = true → ∀ x ∈ l, x.plain = true
  | [], _, x, hx => by simp at hx
  | y :: l, h, x, hx => by
    unfold allPlain at h
    split at h
    · rename_i hy
      rcases List.mem_cons.1 hx with rfl | hx
      · exact hy
      · exact allPlain_inv h x hx
    · cases h

theorem CellsR.agg {l : List AV} {cs : Array Value} (h : CellsR g w l cs) : Rd g.I w (.agg l) (.agg cs) := by
  obtain ⟨cs⟩ := cs
  exact .agg l cs (by have := h.len; simpa using this.symm) (fun v hv => h.one v (by simpa using hv)) fun k c v hc hv => h.rd k c v hc (by simpa using hv)

theorem snd_bld (h : Rel g w0 I0 σ a w) {o : Oper} {t : TypeId} {zero : List AV} {ps : List (Nat × Nat × Arg)} {qs : Array (Nat × Operand)} (ho : o.op = .build t qs) (ht : bldT P t zero ps qs.toList = true) {K : Cont}
    {G : Goods} (hs : (AOp.bld zero ps).sem G σ.get σ.b K) : Told P w0 I0 σ a w o K := by
  simp only [AOp.sem] at hs
  split at hs
  · rename_i hpl
    split at hs
    · cases hs
    · rename_i cs hcs
      simp only [bldT, Bool.and_eq_true] at ht
      obtain ⟨it, z, hit, hz, hco, hsz⟩ := zeroT_inv ht.1
      have ht2 := ht.2
      have key : ∀ place, psOK place ps qs.toList = true → ∃ cells, Instr.fill place z.cells ((qs.toList.map fun q => (q.1, a.eval q.2))) = some cells ∧ CellsR g w cs cells := fun place hpl' => by
        obtain ⟨h1, h2⟩ := psOK_rel h place hpl'
        refine fill_rel place _ _ zero cs z.cells (consts_cellsR hco) (by simpa using h1) (fun i p q hp hq => ?_) hcs
        rw [List.getElem?_map] at hp hq
        obtain ⟨p', hp', rfl⟩ := Option.map_eq_some_iff.1 hp
        obtain ⟨q', hq', rfl⟩ := Option.map_eq_some_iff.1 hq
        obtain ⟨h3, t', h4⟩ := h2 i p' q' hp' hq'
        have hpp := allPlain_inv hpl (p'.2.2.ev σ.get) (List.mem_map.2 ⟨p', List.mem_of_getElem? hp', rfl⟩)
        exact ⟨h3, hpp, (plain_inv hpp h4).rd⟩
      have hb : ∃ cells, P.built t (qs.map fun (i, x) => (i, a.eval x)).toList = some cells ∧ CellsR g w cs cells := by
        split at ht2
        · rename_i n e hu
          split at ht2
          · rename_i ie hie
            obtain ⟨cells, h5, h6⟩ := key _ ht2
            refine ⟨cells, ?_, h6⟩
            simp only [Program.built, hit, hu, hz, hie, Array.toList_map]
            exact h5
          · cases ht2
        · rename_i fields hu
          split at ht2
          · rename_i places hp
            obtain ⟨cells, h5, h6⟩ := key _ ht2
            refine ⟨cells, ?_, h6⟩
            simp only [Program.built, hit, hu, hz, hp, Array.toList_map]
            exact h5
          · cases ht2
        · cases ht2
      obtain ⟨cells, h5, h6⟩ := hb
      refine h.told (v := .agg cells) ?_ (fun t => h6.agg.slots (by simp) t) (by simp [AV.ref]) hs
      simp only [execOp, ho]
      rw [Sem.run_bind, run_build w t _ cells h5]
      rfl
  · cases hs

/-! comparisons of structs -/
def kindT (P : Program) (t : TypeId) : Option LK :=
  match P.underlying t with
  | some .bool => some .b
  | some (.int _) => some .i
  | some .string => some .s
  | _ => none
def lkEq : LK → LK → Bool
  | .i, .i => true
  | .b, .b => true
  | .s, .s => true
  | _, _ => false
def eqF (P : Program) (sub : TypeId → List LK → Bool) : List Field → Nat → List LK → Bool
  | [], _, ks => ks.isEmpty
  | f :: fs, off, ks => (!(f.name == "_")) && Nat.beq f.offset off && match leafT P f.type with
    | true => (match ks with
      | [] => false
      | k :: ks => (match kindT P f.type with | some k' => lkEq k k' | none => false) && eqF P sub fs (off + 1) ks)
    | false => match P.info? f.type with
      | some i => aggT P f.type i.size && Nat.ble i.size ks.length && sub f.type (ks.take i.size) && eqF P sub fs (off + i.size) (ks.drop i.size)
      | none => false
/-- a type whose comparison is that of its leaves, of these kinds -/
def eqT (P : Program) : Nat → TypeId → List LK → Bool
  | 0, _, _ => false
  | d + 1, t, ks => match P.underlying t with
    | some (.struct fs) => !P.stoodInHeld t && eqF P (eqT P d) fs.toList 0 ks
    | some (.array n e) => (P.info? e).isSome && Nat.beq (P.cellsOf e) 1 && leafT P e && Nat.beq ks.length n && ks.all (fun k => match kindT P e with | some k' => lkEq k k' | none => false)
    | _ => false

theorem aggEq_len : ∀ (ks : List LK) (cs ds : List AV) (p : Bool), aggEq ks cs ds = some p → cs.length = ks.length ∧ ds.length = ks.length
  | [], [], [], _, _ => ⟨rfl, rfl⟩
  | k :: ks, a :: cs, b :: ds, p, h => by
    simp only [aggEq] at h
    split at h
    · cases h
    · split at h
      · cases h
      · rename_i y hy
        obtain ⟨h1, h2⟩ := aggEq_len ks cs ds y hy
        exact ⟨by simp [h1], by simp [h2]⟩
  | [], [], _ :: _, _, h => by simp [aggEq] at h
  | [], _ :: _, _, _, h => by simp [aggEq] at h
  | _ :: _, [], _, _, h => by simp [aggEq] at h
  | _ :: _, _ :: _, [], _, h => by simp [aggEq] at h
theorem aggEq_split (n : Nat) : ∀ (ks : List LK) (cs ds : List AV) (p : Bool), aggEq ks cs ds = some p → ∃ q r, aggEq (ks.take n) (cs.take n) (ds.take n) = some q ∧ aggEq (ks.drop n) (cs.drop n) (ds.drop n) = some r ∧ p = (q && r) := by
  induction n with
  | zero => intro ks cs ds p h; exact ⟨true, p, by simp [aggEq], by simpa using h, by simp⟩
  | succ n ih =>
    intro ks cs ds p h
    obtain ⟨h1, h2⟩ := aggEq_len _ _ _ _ h
    cases ks with
    | nil =>
      have e1 : cs = [] := List.eq_nil_of_length_eq_zero (by simpa using h1)
      have e2 : ds = [] := List.eq_nil_of_length_eq_zero (by simpa using h2)
      subst e1; subst e2
      cases h
      exact ⟨true, true, rfl, rfl, rfl⟩
    | cons k ks =>
      cases cs with
      | nil => simp at h1
      | cons a cs =>
        cases ds with
        | nil => simp at h2
        | cons b ds =>
          simp only [aggEq] at h
          split at h
          · cases h
          · rename_i x hx
            split at h
            · cases h
            · rename_i y hy
              obtain ⟨q, r, h3, h4, h5⟩ := ih ks cs ds y hy
              cases h
              exact ⟨x && q, r, by simp [aggEq, hx, h3], by simpa using h4, by rw [h5, Bool.and_assoc]⟩

theorem decide_beqB (a b : Bool) : (a == b) = decide (a = b) := by cases a <;> cases b <;> rfl
theorem run_eqLeaf {t : TypeId} {k : LK} (ht : (match kindT P t with | some k' => lkEq k k' | none => false) = true) (D : Nat) {c d : AV} {u v : Value} (hc : Rd g.I w c u) (hd : Rd g.I w d v) {p : Bool} (hp : leafEq k c d = some p) :
    (Op.equalIn (D + 1) t u v).run P w = .ok p w := by
  unfold kindT at ht
  cases k with
  | i =>
    simp only [leafEq] at hp
    split at hp
    · split at hp
      · split at hp
        · rename_i k a k' b hkk
          subst hkk
          cases hc; cases hd; cases hp
          cases hu : P.underlying t with
          | none => simp [hu] at ht
          | some dd =>
            cases dd <;> simp [hu, lkEq] at ht
            rename_i k2
            rw [run_equalIn_int w D t _ k2 _ _ hu, decide_beq]
        · cases hp
      · cases hp
    · cases hp
  | b =>
    simp only [leafEq] at hp
    split at hp
    · split at hp
      · rename_i a b
        cases hc; cases hd; cases hp
        cases hu : P.underlying t with
        | none => simp [hu] at ht
        | some dd =>
          cases dd <;> simp [hu, lkEq] at ht
          rw [run_equalIn_bool' w D t _ _ hu, decide_beqB]
      · cases hp
    · cases hp
  | s =>
    simp only [leafEq] at hp
    split at hp
    · split at hp
      · rename_i a b
        cases hc; cases hd; cases hp
        cases hu : P.underlying t with
        | none => simp [hu] at ht
        | some dd =>
          cases dd <;> simp [hu, lkEq] at ht
          rw [run_equalIn_string w D t _ _ hu, str_toList, str_toList, decide_beqL]
      · cases hp
    · cases hp

theorem CellsR.sub {l : List AV} {cs : Array Value} (h : CellsR g w l cs) (off n : Nat) : CellsR g w ((l.drop off).take n) (cs.extract off (off + n)) := by
  refine ⟨by have := h.len; simp; omega, fun u hu => h.one u (by
    obtain ⟨k, hk⟩ := Array.mem_iff_getElem?.1 hu
    rw [Array.getElem?_extract] at hk
    split at hk
    · exact Array.mem_of_getElem? hk
    · cases hk), fun k c u hc hu => ?_⟩
  rw [List.getElem?_take, List.getElem?_drop] at hc
  rw [Array.getElem?_extract] at hu
  split at hc
  · split at hu
    · exact h.rd _ _ _ hc hu
    · cases hu
  · cases hc

theorem run_eqF {D d : Nat} (ih : ∀ t ks, eqT P d t ks = true → ∀ (cs ds : List AV) (xs ys : Array Value) (p : Bool), CellsR g w cs xs → CellsR g w ds ys → aggEq ks cs ds = some p → (Op.equalIn (D + 1) t (.agg xs) (.agg ys)).run P w = .ok p w)
    {cs ds : List AV} {xs ys : Array Value} (hx : CellsR g w cs xs) (hy : CellsR g w ds ys) : ∀ (fs : List Field) (off : Nat) (ks : List LK) (p : Bool), eqF P (eqT P d) fs off ks = true → aggEq ks (cs.drop off) (ds.drop off) = some p →
    (Op.eqFields (D + 1) xs ys fs).run P w = .ok p w
  | [], off, ks, p, hf, hp => by
    simp only [eqF, List.isEmpty_iff] at hf
    subst hf
    obtain ⟨h1, h2⟩ := aggEq_len _ _ _ _ hp
    have e1 := List.eq_nil_of_length_eq_zero h1
    have e2 := List.eq_nil_of_length_eq_zero h2
    rw [e1, e2] at hp
    cases hp
    rfl
  | f :: fs, off, ks, p, hf, hp => by
    simp only [eqF, Bool.and_eq_true, Bool.not_eq_true', beq_eq_false_iff_ne, ne_eq] at hf
    obtain ⟨⟨hname, hoff⟩, hf⟩ := hf
    have hoff := Nat.eq_of_beq_eq_true hoff
    subst hoff
    simp only [Op.eqFields, hname, ne_eq, not_false_eq_true, if_true]
    split at hf
    · rename_i hleaf
      split at hf
      · cases hf
      · rename_i k ks
        simp only [Bool.and_eq_true] at hf
        obtain ⟨h1, h2⟩ := aggEq_len _ _ _ _ hp
        have l1 : f.offset < cs.length := by simp at h1; omega
        have l2 : f.offset < ds.length := by simp at h2; omega
        rw [List.drop_eq_getElem_cons l1, List.drop_eq_getElem_cons l2] at hp
        simp only [aggEq] at hp
        split at hp
        · cases hp
        · rename_i q hq
          split at hp
          · cases hp
          · rename_i r hr
            cases hp
            have e1 : xs[f.offset]? = some (xs[f.offset]'(by have := hx.len; omega)) := Array.getElem?_eq_getElem _
            have e2 : ys[f.offset]? = some (ys[f.offset]'(by have := hy.len; omega)) := Array.getElem?_eq_getElem _
            have r1 := hx.rd _ _ _ (List.getElem?_eq_getElem l1) e1
            have r2 := hy.rd _ _ _ (List.getElem?_eq_getElem l2) e2
            have p1 : (part f.type xs f.offset).run P w = .ok (xs[f.offset]'(by have := hx.len; omega)) w := by simp [part, leafT_run hleaf, e1]
            have p2 : (part f.type ys f.offset).run P w = .ok (ys[f.offset]'(by have := hy.len; omega)) w := by simp [part, leafT_run hleaf, e2]
            have heq := run_eqLeaf (P := P) hf.1 D r1 r2 hq
            have hrest := run_eqF ih hx hy fs (f.offset + 1) ks r hf.2 hr
            simp only [Sem.run_bind, p1, p2, Result.andThen_ok, heq]
            cases q
            · simp
            · simpa using hrest
    · rename_i hleaf
      split at hf
      · rename_i i hi
        simp only [Bool.and_eq_true] at hf
        obtain ⟨⟨⟨ha, hle⟩, hsub⟩, hf⟩ := hf
        obtain ⟨q, r, h1, h2, h3⟩ := aggEq_split i.size _ _ _ _ hp
        obtain ⟨a1, a2⟩ := aggT_run ha w
        have p1 : (part f.type xs f.offset).run P w = .ok (.agg (xs.extract f.offset (f.offset + i.size))) w := by simp [part, a1, a2]
        have p2 : (part f.type ys f.offset).run P w = .ok (.agg (ys.extract f.offset (f.offset + i.size))) w := by simp [part, a1, a2]
        have heq := ih _ _ hsub _ _ _ _ q (hx.sub f.offset i.size) (hy.sub f.offset i.size) h1
        rw [List.drop_drop, List.drop_drop] at h2
        have hrest := run_eqF ih hx hy fs (f.offset + i.size) (ks.drop i.size) r hf h2
        simp only [Sem.run_bind, p1, p2, Result.andThen_ok, heq]
        subst h3
        cases q
        · simp
        · simpa using hrest
      · cases hf

theorem run_eqItems {D : Nat} {e : TypeId} (hleaf : leafT P e = true) {cs ds : List AV} {xs ys : Array Value} (hx : CellsR g w cs xs) (hy : CellsR g w ds ys) : ∀ (ks : List LK) (off : Nat) (p : Bool), (∀ k ∈ ks, (match kindT P e with | some k' => lkEq k k' | none => false) = true) → aggEq ks (cs.drop off) (ds.drop off) = some p →
    (Op.eqItems (D + 1) e 1 xs ys (List.range' off ks.length)).run P w = .ok p w
  | [], off, p, _, hp => by
    obtain ⟨h1, h2⟩ := aggEq_len _ _ _ _ hp
    have e1 := List.eq_nil_of_length_eq_zero h1
    have e2 := List.eq_nil_of_length_eq_zero h2
    rw [e1, e2] at hp
    cases hp
    rfl
  | k :: ks, off, p, hk, hp => by
    obtain ⟨h1, h2⟩ := aggEq_len _ _ _ _ hp
    have l1 : off < cs.length := by simp at h1; omega
    have l2 : off < ds.length := by simp at h2; omega
    rw [List.drop_eq_getElem_cons l1, List.drop_eq_getElem_cons l2] at hp
    simp only [aggEq] at hp
    split at hp
    · cases hp
    · rename_i q hq
      split at hp
      · cases hp
      · rename_i r hr
        cases hp
        have e1 : xs[off]? = some (xs[off]'(by have := hx.len; omega)) := Array.getElem?_eq_getElem _
        have e2 : ys[off]? = some (ys[off]'(by have := hy.len; omega)) := Array.getElem?_eq_getElem _
        have r1 := hx.rd _ _ _ (List.getElem?_eq_getElem l1) e1
        have r2 := hy.rd _ _ _ (List.getElem?_eq_getElem l2) e2
        have p1 : (part e xs off).run P w = .ok (xs[off]'(by have := hx.len; omega)) w := by simp [part, leafT_run hleaf, e1]
        have p2 : (part e ys off).run P w = .ok (ys[off]'(by have := hy.len; omega)) w := by simp [part, leafT_run hleaf, e2]
        have heq := run_eqLeaf (P := P) (hk k (by simp)) D r1 r2 hq
        have hrest := run_eqItems (D := D) hleaf hx hy ks (off + 1) r (fun k hk' => hk k (by simp [hk'])) hr
        simp only [List.length_cons, List.range'_succ, Op.eqItems, Nat.mul_one, Sem.run_bind, p1, p2, Result.andThen_ok, heq]
        cases q
        · simp
        · simpa using hrest
theorem run_eqT : ∀ (d D : Nat), d ≤ D → ∀ t ks, eqT P d t ks = true → ∀ (cs ds : List AV) (xs ys : Array Value) (p : Bool), CellsR g w cs xs → CellsR g w ds ys → aggEq ks cs ds = some p → (Op.equalIn (D + 1) t (.agg xs) (.agg ys)).run P w = .ok p w
  | 0, _, _, t, ks, h, _, _, _, _, _, _, _, _ => by simp [eqT] at h
  | d + 1, D, hD, t, ks, h, cs, ds, xs, ys, p, hx, hy, hp => by
    unfold eqT at h
    split at h
    · rename_i fs hu
      simp only [Bool.and_eq_true, Bool.not_eq_true'] at h
      have hfs : P.fieldsOf t = fs := by simp [Program.fieldsOf, hu]
      rw [run_equalIn_struct w D t xs ys (by rw [hfs]; exact hu) h.1, hfs]
      obtain ⟨D', rfl⟩ : ∃ D', D = D' + 1 := ⟨D - 1, by omega⟩
      exact run_eqF (fun t ks h cs ds xs ys p => run_eqT d D' (by omega) t ks h cs ds xs ys p) hx hy fs.toList 0 ks p h.2 (by simpa using hp)
    · rename_i n e hu
      simp only [Bool.and_eq_true] at h
      obtain ⟨⟨⟨⟨hi, hc⟩, hl⟩, hn⟩, hk⟩ := h
      obtain ⟨i, hi⟩ := Option.isSome_iff_exists.1 hi
      have hc := Nat.eq_of_beq_eq_true hc
      have hn := Nat.eq_of_beq_eq_true hn
      rw [run_equalIn_array w D xs ys hu hi, hc, ← hn, List.range_eq_range']
      obtain ⟨D', rfl⟩ : ∃ D', D = D' + 1 := ⟨D - 1, by omega⟩
      exact run_eqItems hl hx hy ks 0 p (fun k hk' => List.all_eq_true.1 hk k hk') (by simpa using hp)
    · cases h

def eqAT (P : Program) (t : TypeId) (ks : List LK) : Bool := eqT P 8 t ks && !P.eqGuardType P.depth t

theorem Rd.cellsR {cs : List AV} {v : Value} (h : Rd g.I w (.agg cs) v) : ∃ xs, v = .agg xs ∧ CellsR g w cs xs := by
  cases h with
  | agg _ vs hl h1 hcs => exact ⟨vs.toArray, rfl, by simpa using hl.symm, by simpa using h1, fun k c u hc hu => hcs k c u hc (by simpa using hu)⟩

theorem snd_eqA (h : Rel g w0 I0 σ a w) {o : Oper} {ne : Bool} {ks : List LK} {t u : TypeId} {x y : Arg} {x' y' : Operand} (ho : o.op = .binOp (if ne then .neq else .eql) t x' y' u) (ht : eqAT P t ks = true) (hx : chkArg x x' = true) (hy : chkArg y y' = true) {K : Cont}
    {G : Goods} (hs : (AOp.eqA ne ks x y).sem G σ.get σ.b K) : Told P w0 I0 σ a w o K := by
  obtain ⟨tx, hx'⟩ := h.arg hx
  obtain ⟨ty, hy'⟩ := h.arg hy
  simp only [AOp.sem] at hs
  generalize hX : x.ev σ.get = X at hs hx'
  generalize hY : y.ev σ.get = Y at hs hy'
  split at hs
  · split at hs
    · rename_i cs ds
      split at hs
      · cases hs
      · rename_i p hp
        obtain ⟨xs, e1, r1⟩ := hx'.agg_inv.cellsR
        obtain ⟨ys, e2, r2⟩ := hy'.agg_inv.cellsR
        simp only [eqAT, Bool.and_eq_true, Bool.not_eq_true'] at ht
        have hrun := run_eqT (P := P) 8 9999 (by omega) t ks ht.1 _ _ xs ys p r1 r2 hp
        have hg1 : (eqGuard .eql t x' y' (.agg xs) (.agg ys)).run P w = .ok () w := by simp [eqGuard, ht.2]
        have hg2 : (eqGuard .neq t x' y' (.agg xs) (.agg ys)).run P w = .ok () w := by simp [eqGuard, ht.2]
        have hk : K (.bool (if ne then !p else p)) none none := by cases ne <;> exact hs
        refine h.told (v := .bool (if ne then !p else p)) ?_ (fun t => (Rd.bool _).slots (by simp) t) (by simp [AV.ref]) hk
        simp only [execOp, ho, e1, e2]
        cases ne <;> simp [hg1, hg2, binOp, Op.equal, Op.maxDepth, hrun]
    · cases hs
  · cases hs
end
end Go.Proofs.Ytfkihagcgjombaa

/- New slices are told rightly. No program's fact stands here. -/
import Derived.Test.YtfkihagcgjombaaAwB
namespace Go.Proofs.Ytfkihagcgjombaa
open Go.RowKit

section
variable {P : Program} {g : Gh} {w0 : World} {I0 : Cells} {σ : St} {a : Act} {w : World}

theorem Rel.newRow (h : Rel g w0 I0 σ a w) {w' : World} (hb : Below w.heap.size w w') {cur : Array Value} {e : TypeId} {fr : Nat × Nat} (hh : w'.heap[w.heap.size]? = some (.cells cur e fr)) (es : Nat) (xs : List (List AV)) (cap : Nat)
    (hcap : xs.length ≤ cap) (hmax : cap ≤ maxLen) (hsz : xs.length * es ≤ cur.size) (hes : ∀ x ∈ xs, x.length = es)
    (hcells : ∀ (j k : Nat) x c, xs[j]? = some x → x[k]? = some c → ∃ u, cur[j * es + k]? = some u ∧ u.oneCell' = true ∧ Rd g.I w c u) (d : Option Nat) :
    ∃ g', Rel g' w0 I0 σ a w' ∧ (∀ p, p ≠ .clip → p ≠ .nil → Rd g'.I w' (.sl p es xs) (.slice (some ⟨w.heap.size, 0, none⟩) xs.length cap)) ∧
      (fr = (0, 0) → cur.size = cap * es → ∀ t, d = some t → SlotR g' w' t (.sl .own es xs) (.slice (some ⟨w.heap.size, 0, none⟩) xs.length cap)) := by
  have hbs : g.base ≤ w.heap.size := by rw [h.size]; exact h.below.size
  have hg := h.fresh w' (fun b o => b = w.heap.size ∧ o < xs.length * es) (fun _ => match d with | some d => .slot d 0 | none => .none) hb (fun b o hx => by
    obtain ⟨rfl, ho⟩ := hx
    refine ⟨Nat.le_refl _, cur[o]'(by omega), ?_⟩
    rw [cell_of_row w' _ _ cur e fr hh]
    exact Array.getElem?_eq_getElem _)
  have hmono : ∀ c u, Rd g.I w c u → Rd _ w' c u := fun c u hr => hr.mono (hg.keep .none).I (hg.keep .none).same
  have hrd : ∀ p, p ≠ .clip → p ≠ .nil → Rd (fun b o => g.I b o ∨ (b = w.heap.size ∧ o < xs.length * es)) w' (.sl p es xs) (.slice (some ⟨w.heap.size, 0, none⟩) xs.length cap) := fun p hp1 hp2 => by
    refine .sl p es xs _ cap (fun j k => (cur[j * es + k]?).getD undef) hcap hmax (fun hc => absurd hc hp1) (fun hc => absurd hc hp2) hes (fun _ => ⟨w.heap.size, 0, rfl, fun j k x c hj hk => ?_⟩) fun j k x c hj hk => ?_
    · obtain ⟨u, hu, h1, _⟩ := hcells _ _ _ _ hj hk
      have hxl := hes x (List.mem_of_getElem? hj)
      have hjl : j < xs.length := (List.getElem?_eq_some_iff.1 hj).1
      have hkl : k < es := by have := (List.getElem?_eq_some_iff.1 hk).1; omega
      have hlt : j * es + k < xs.length * es := by
        have : (j + 1) * es ≤ xs.length * es := Nat.mul_le_mul_right _ hjl
        rw [Nat.add_mul] at this
        omega
      rw [Nat.zero_add]
      exact ⟨.inr ⟨rfl, hlt⟩, by rw [cell_of_row w' _ _ cur e fr hh, hu]; rfl, by rw [hu]; exact h1⟩
    · obtain ⟨u, hu, _, h2⟩ := hcells _ _ _ _ hj hk
      rw [hu]
      exact hmono _ _ h2
  refine ⟨_, h.grew hg, hrd, fun hfr hcs t ht => LocR.slot ⟨hrd .own (by simp) (by simp), fun es' xs' he => ?_⟩⟩
  cases he
  subst hfr
  refine .inr ⟨w.heap.size, cap, cur, e, rfl, hbs, ?_, hh, hcs, fun o => ⟨fun hi => ?_, fun hlt => .inr ⟨rfl, hlt⟩⟩⟩
  · show (if w.heap.size < w.heap.size then _ else _) = _
    rw [if_neg (Nat.lt_irrefl _), ht]
  · rcases hi with hi | hi
    · exact absurd (h.I_lt hi) (Nat.lt_irrefl _)
    · exact hi.2

theorem snd_cv_bytes (h : Rel g w0 I0 σ a w) {o : Oper} {src dst : TypeId} {x : Arg} {x' : Operand} (ho : o.op = .convert src dst x') (ht : cvT P .bytes src dst = true) (hx : chkArg x x' = true) {K : Cont}
    {G : Goods} (hs : (AOp.cv .bytes x).sem G σ.get σ.b K) : Told P w0 I0 σ a w o K := by
  intro next Q hK
  obtain ⟨tx, hx'⟩ := h.arg hx
  simp only [AOp.sem, cvK] at hs
  generalize hX : x.ev σ.get = X at hs hx'
  simp only [cvT, Bool.and_eq_true] at ht
  obtain ⟨ht1, ht2⟩ := ht
  split at hs
  · rename_i s
    obtain ⟨hv, hsl⟩ := hx'.str_inv
    split at ht1
    · rename_i e he
      split at ht1
      · rename_i hu8
        split at ht2
        · rename_i hst
          have hrun0 := run_bytes_of_string (P := P) w src dst e (str s) hst he hu8
          have hsz : (str s).size = s.length := rfl
          rw [hsz] at hrun0
          have hlen : (bytesAV s).length = s.length := by simp [bytesAV]
          have hcapge := grownCap_ge w s.length 0 e
          have hrow : ∀ k, k < s.length → (bytesRow (str s) (grownCap w s.length 0 e))[k]? = some (.int .u8 ((s.getD k 0).toNat : Int)) := fun k hk => by
            unfold bytesRow
            rw [Array.getElem?_append_left (by show k < (Array.map _ _).size; simp [str]; exact hk)]
            simp [str, hk, List.getD_eq_getElem?_getD]
          obtain ⟨g', hrel, hrd, _⟩ := h.newRow (w' := w.drew.alloc (.cells (bytesRow (str s) (grownCap w s.length 0 e)) e ((bytesRow (str s) (grownCap w s.length 0 e)).size, (bytesRow (str s) (grownCap w s.length 0 e)).size + 1)))
            ((Below.refl _ _).drew.alloc (Nat.le_refl _) _) (heap_alloc_new w.drew _) 1 (bytesAV s) (grownCap w s.length 0 e) (by rw [hlen]; exact hcapge) (grownCap_le_maxLen w _ 0 e hsl)
            (by rw [hlen]; simp [bytesRow, str]) (fun x hx => by obtain ⟨b, _, rfl⟩ := List.mem_map.1 hx; rfl) (fun j k x c hj hk => by
              unfold bytesAV at hj
              rw [List.getElem?_map] at hj
              obtain ⟨b, hb, rfl⟩ := Option.map_eq_some_iff.1 hj
              cases k with
              | succ k => simp at hk
              | zero =>
                cases hk
                have hjl : j < s.length := (List.getElem?_eq_some_iff.1 hb).1
                refine ⟨_, by rw [Nat.mul_one, Nat.add_zero]; exact hrow j hjl, rfl, ?_⟩
                rw [List.getD_eq_getElem?_getD, hb]
                exact .int _ _) none
          have hrun : (execOp a.eval o).run P w = .ok (.value (.slice (some ⟨w.heap.size, 0, none⟩) s.length (grownCap w s.length 0 e))) (w.drew.alloc (.cells (bytesRow (str s) (grownCap w s.length 0 e)) e ((bytesRow (str s) (grownCap w s.length 0 e)).size, (bytesRow (str s) (grownCap w s.length 0 e)).size + 1))) := by
            simp only [execOp, ho, hv]
            rw [Sem.run_bind, hrun0]
            rfl
          have hr := hrd .sh (by simp) (by simp)
          rw [hlen] at hr
          exact wp_val hrun (hK _ _ _ hs g' _ _ (hrel.put o.dst _ _ (fun t _ => hr.slots (by simp) t) (by simp [AV.ref])))
        · cases ht2
      · cases ht1
    · cases ht1
  · cases hs

/-! the literal of a slice -/
theorem fill_seq (es : Nat) : ∀ (vs : List Value) (m : Nat) (cs : Array Value), (∀ v ∈ vs, v.cells.size = es) → (m + vs.length) * es ≤ cs.size →
    ∃ cs', Instr.fill (fun i => some (i * es, es)) cs ((vs.zipIdx m).map fun p => (p.2, p.1)) = some cs' ∧ cs'.size = cs.size ∧ (∀ k, k < m * es → cs'[k]? = cs[k]?) ∧
      ∀ (j k : Nat) v, vs[j]? = some v → k < es → cs'[(m + j) * es + k]? = v.cells[k]?
  | [], m, cs, _, _ => ⟨cs, rfl, rfl, fun _ _ => rfl, fun j k v hj => by simp at hj⟩
  | v :: vs, m, cs, hv, hl => by
    have hv0 : v.cells.size = es := hv v (by simp)
    have hl' : (m + 1 + vs.length) * es ≤ cs.size := by simpa [Nat.add_assoc, Nat.add_comm 1] using hl
    have hml : m * es + es ≤ cs.size := by
      have : (m + 1) * es ≤ (m + 1 + vs.length) * es := Nat.mul_le_mul_right _ (by omega)
      rw [Nat.add_mul] at this
      omega
    obtain ⟨cs', h1, h2, h3, h4⟩ := fill_seq es vs (m + 1) (v.cells.zipIdx.foldl (fun cs (p : Value × Nat) => cs.setIfInBounds (m * es + p.2) p.1) cs) (fun u hu => hv u (by simp [hu])) (by rw [foldset_size]; exact hl')
    rw [foldset_size] at h2
    refine ⟨cs', ?_, h2, fun k hk => ?_, fun j k u hj hk => ?_⟩
    · simp only [List.zipIdx_cons, List.map_cons, Instr.fill]
      rw [if_neg (by rw [hv0]; simp; omega)]
      exact h1
    · rw [h3 k (by rw [Nat.add_mul]; omega), foldset_get, if_neg (by omega)]
    · cases j with
      | zero =>
        simp at hj
        subst hj
        rw [Nat.add_zero, h3 _ (by rw [Nat.add_mul]; omega), foldset_get, if_pos (by omega)]
        congr 1
        omega
      | succ j =>
        have := h4 j k u (by simpa using hj) hk
        rw [show m + (j + 1) = m + 1 + j by omega]
        exact this

def bsOK : Nat → List Arg → List (Nat × Operand) → Bool
  | _, [], [] => true
  | m, x :: xs, q :: qs => Nat.beq q.1 m && chkArg x q.2 && bsOK (m + 1) xs qs
  | _, _, _ => false
theorem bsOK_inv : ∀ {xs : List Arg} {qs : List (Nat × Operand)} {m : Nat}, bsOK m xs qs = true → qs.map (·.1) = (List.range' m qs.length) ∧ chkArgs xs (qs.map (·.2)) = true
  | [], [], m, _ => ⟨rfl, rfl⟩
  | [], q :: qs, m, h => by simp [bsOK] at h
  | x :: xs, [], m, h => by simp [bsOK] at h
  | x :: xs, q :: qs, m, h => by
    simp only [bsOK, Bool.and_eq_true] at h
    obtain ⟨h1, h2⟩ := bsOK_inv h.2
    have := Nat.eq_of_beq_eq_true h.1.1
    exact ⟨by simp [List.range'_succ, this, h1], by simp [chkArgs, h.1.2, h2]⟩
def bsT (P : Program) (t : TypeId) (es n : Nat) (xs : List Arg) (qs : List (Nat × Operand)) : Bool :=
  sliceT P t && zsT P (P.elem t) es && Nat.beq n xs.length && Nat.ble (n * es) 16777216 && Nat.ble n 16777216 && bsOK 0 xs qs
where
  /-- the zero of that type has so many cells -/
  zsT (P : Program) (e : TypeId) (es : Nat) : Bool :=
    match P.info? e with
    | some i => match i.zero with
      | some z => Nat.beq i.size es && Nat.beq z.cells.size es
      | none => false
    | none => false
theorem zsT_inv {e : TypeId} {es : Nat} (h : bsT.zsT P e es = true) : ∃ i z, P.info? e = some i ∧ i.zero = some z ∧ i.size = es ∧ z.cells.size = es := by
  unfold bsT.zsT at h
  split at h
  · rename_i i hi
    split at h
    · rename_i z hz
      simp only [Bool.and_eq_true] at h
      exact ⟨i, z, hi, hz, Nat.eq_of_beq_eq_true h.1, Nat.eq_of_beq_eq_true h.2⟩
    · cases h
  · cases h

theorem cellsOf_eq : ∀ (l : List AV) (K : List (List AV) → Prop), cellsOf l K = K (l.map AV.cells)
  | [], K => rfl
  | x :: l, K => by rw [cellsOf, frcL_eq, cellsOf_eq l]; rfl
theorem allLen_inv {n : Nat} : ∀ {l : List (List AV)}, allLen n l = true → ∀ x ∈ l, x.length = n
  | [], _, x, hx => by simp at hx
  | y :: l, h, x, hx => by
    unfold allLen at h
    split at h
    · rename_i hy
      rcases List.mem_cons.1 hx with rfl | hx
      · exact Nat.eq_of_beq_eq_true hy
      · exact allLen_inv h x hx
    · cases h

/-- a slice built of its elements -/
theorem bs_core (h : Rel g w0 I0 σ a w) {o : Oper} {t : TypeId} {es n : Nat} {xs : List Arg} {qs : Array (Nat × Operand)} (ho : o.op = .buildSlice t n qs) (ht : bsT P t es n xs qs.toList = true)
    (hpl : allPlain (xs.map fun x => x.ev σ.get) = true) (hal : allLen es ((xs.map fun x => x.ev σ.get).map AV.cells) = true) :
    ∃ cs' : Array Value, (execOp a.eval o).run P w = .ok (.value (.slice (some ⟨w.heap.size, 0, none⟩) n n)) (w.alloc (.cells cs' (P.elem t))) ∧ cs'.size = n * es ∧ ((xs.map fun x => x.ev σ.get).map AV.cells).length = n ∧ n ≤ maxLen ∧ (∀ x ∈ (xs.map fun x => x.ev σ.get).map AV.cells, x.length = es) ∧
      ∀ (j k : Nat) x c, ((xs.map fun x => x.ev σ.get).map AV.cells)[j]? = some x → x[k]? = some c → ∃ u, cs'[j * es + k]? = some u ∧ u.oneCell' = true ∧ Rd g.I w c u := by
  simp only [bsT, Bool.and_eq_true] at ht
  obtain ⟨⟨⟨⟨⟨hsl, hz⟩, hn⟩, hle⟩, hle2⟩, hok⟩ := ht
  have hu := sliceT_inv hsl
  obtain ⟨it, z, hit, hzz, hsz, hzs⟩ := zsT_inv hz
  have hn := Nat.eq_of_beq_eq_true hn
  have hle := Nat.le_of_ble_eq_true hle
  have hle2 := Nat.le_of_ble_eq_true hle2
  obtain ⟨hidx, hargs⟩ := bsOK_inv hok
  obtain ⟨hlen, hrel⟩ := h.args hargs
  have hall := allLen_inv hal
  -- the parts as values
  have hvs : ∀ (j : Nat) x, xs[j]? = some x → ∃ y, (qs.toList.map (·.2))[j]? = some y ∧ (x.ev σ.get).cells.length = es ∧ (a.eval y).cells.size = es ∧ (∀ u ∈ (a.eval y).cells, u.oneCell' = true) ∧ ∀ (k : Nat) c u, (x.ev σ.get).cells[k]? = some c → (a.eval y).cells[k]? = some u → Rd g.I w c u := fun j x hj => by
    have hjl : j < (qs.toList.map (·.2)).length := by have := (List.getElem?_eq_some_iff.1 hj).1; omega
    have hy : (qs.toList.map (·.2))[j]? = some ((qs.toList.map (·.2))[j]) := List.getElem?_eq_getElem hjl
    obtain ⟨t', ht'⟩ := hrel j (x.ev σ.get) (a.eval ((qs.toList.map (·.2))[j])) (by rw [List.getElem?_map, hj]; rfl) (by rw [List.getElem?_map, hy]; rfl)
    have hp := allPlain_inv hpl (x.ev σ.get) (List.mem_map.2 ⟨x, List.mem_of_getElem? hj, rfl⟩)
    obtain ⟨c1, c2, c3⟩ := cells_rd hp (plain_inv hp ht').rd
    have hl := hall (x.ev σ.get).cells (List.mem_map.2 ⟨x.ev σ.get, List.mem_map.2 ⟨x, List.mem_of_getElem? hj, rfl⟩, rfl⟩)
    exact ⟨_, hy, hl, by omega, c2, c3⟩
  have hparts : ((qs.map fun (i, x) => (i, a.eval x)).toList) = (((qs.toList.map (·.2)).map a.eval).zipIdx 0).map fun p => (p.2, p.1) := by
    rw [Array.toList_map]
    apply List.ext_getElem?
    intro j
    simp only [List.getElem?_map, List.getElem?_zipIdx]
    cases hj : qs.toList[j]? with
    | none => simp
    | some q =>
      have : (qs.toList.map (·.1))[j]? = some q.1 := by rw [List.getElem?_map, hj]; rfl
      rw [hidx, List.getElem?_range' (by have := (List.getElem?_eq_some_iff.1 hj).1; omega)] at this
      simp at this
      simp [← this]
  have hzero : ((Array.range (n * es)).map (z.cells[· % z.cells.size]!)).size = n * es := by simp
  have hql : qs.toList.length = n := by rw [hn, hlen]; simp
  obtain ⟨cs', hf, hfs, _, hfc⟩ := fill_seq es ((qs.toList.map (·.2)).map a.eval) 0 ((Array.range (n * es)).map (z.cells[· % z.cells.size]!)) (fun v hv => by
    obtain ⟨y, hy, rfl⟩ := List.mem_map.1 hv
    obtain ⟨j, hj⟩ := List.mem_iff_getElem?.1 hy
    have hjl : j < xs.length := by have := (List.getElem?_eq_some_iff.1 hj).1; omega
    obtain ⟨y', hy', _, h5, _⟩ := hvs j xs[j] (List.getElem?_eq_getElem hjl)
    rw [hj] at hy'; cases hy'
    exact h5) (by rw [hzero]; simp [hql])
  rw [hzero] at hfs
  have hrun : (execOp a.eval o).run P w = .ok (.value (.slice (some ⟨w.heap.size, 0, none⟩) n n)) (w.alloc (.cells cs' (P.elem t))) := by
    simp only [execOp, ho]
    rw [Sem.run_bind]
    have hb : (Instr.buildSlice t n (qs.map fun (i, x) => (i, a.eval x))).run P w = .ok (.slice (some ⟨w.heap.size, 0, none⟩) n n) (w.alloc (.cells cs' (P.elem t))) := by
      have hgt : ¬ (n * es > 2 ^ 24) := by omega
      by_cases h0 : n * es = 0
      · have e1 : (Array.range (n * es)).map (z.cells[· % z.cells.size]!) = (Array.range (n * es)).map ((#[] : Array Value)[· % (#[] : Array Value).size]!) := by rw [h0]; simp [Array.range_zero']
        rw [e1] at hf
        simp only [Instr.buildSlice, Sem.run_bind, run_underlying hu, Result.andThen_ok, sizeOf, typeInfo, run_program, hit, Sem.run_pure, hsz, Sem.run_ite, if_neg hgt, if_pos h0]
        rw [hparts, hf]
        simp [newRow]
      · simp only [Instr.buildSlice, Sem.run_bind, run_underlying hu, Result.andThen_ok, sizeOf, typeInfo, run_program, hit, Sem.run_pure, hsz, Sem.run_ite, if_neg hgt, if_neg h0, zeroValue, hzz]
        rw [hparts, hf]
        simp [newRow]
    rw [hb]
    rfl
  have hcl : ((xs.map fun x => x.ev σ.get).map AV.cells).length = n := by simp [hn]
  refine ⟨cs', hrun, hfs, hcl, by simp only [maxLen]; omega, hall, fun j k x c hj hk => ?_⟩
  rw [List.map_map, List.getElem?_map] at hj
  obtain ⟨x', hx', rfl⟩ := Option.map_eq_some_iff.1 hj
  obtain ⟨y, hy, h4, h5, h6, h7⟩ := hvs j x' hx'
  simp only [Function.comp] at hk
  have hkl : k < es := by have := (List.getElem?_eq_some_iff.1 hk).1; omega
  have hu' : (a.eval y).cells[k]? = some ((a.eval y).cells[k]'(by omega)) := Array.getElem?_eq_getElem _
  have hc := hfc j k (a.eval y) (by rw [List.getElem?_map, hy]; rfl) hkl
  rw [Nat.zero_add, hu'] at hc
  exact ⟨_, hc, h6 _ (Array.getElem_mem _), h7 k c _ hk hu'⟩
theorem snd_bs (h : Rel g w0 I0 σ a w) {o : Oper} {t : TypeId} {es n : Nat} {xs : List Arg} {qs : Array (Nat × Operand)} (ho : o.op = .buildSlice t n qs) (ht : bsT P t es n xs qs.toList = true) {K : Cont}
    {G : Goods} (hs : (AOp.bs es xs).sem G σ.get σ.b K) : Told P w0 I0 σ a w o K := by
  intro next Q hK
  simp only [AOp.sem] at hs
  split at hs
  · rename_i hpl
    rw [cellsOf_eq] at hs
    split at hs
    · rename_i hal
      obtain ⟨cs', hrun, hfs, hcl, hmx, hall, hcc⟩ := bs_core h ho ht hpl hal
      obtain ⟨g', hr1, _, hr2⟩ := h.newRow (w' := w.alloc (.cells cs' (P.elem t))) ((Below.refl _ _).alloc (Nat.le_refl _) _) (heap_alloc_new w _) es ((xs.map fun x => x.ev σ.get).map AV.cells) n (by omega)
        hmx (by rw [hcl, hfs]; exact Nat.le_refl _) hall hcc o.dst
      have hfin := hr2 rfl hfs
      rw [hcl] at hfin
      exact wp_val hrun (hK _ _ _ hs g' _ _ (hr1.put o.dst _ _ hfin (by simp [AV.ref])))
    · cases hs
  · cases hs

def mkT (P : Program) (t : TypeId) (es bytes : Nat) (zero : List AV) : Bool :=
  sliceT P t && zeroT P (P.elem t) zero && Nat.beq zero.length es && (match P.info? (P.elem t) with | some i => Nat.beq i.bytes bytes | none => false) && !Nat.beq es 0

theorem snd_mk (h : Rel g w0 I0 σ a w) {o : Oper} {t : TypeId} {es bytes : Nat} {zero : List AV} {l c : Arg} {l' c' : Operand} (ho : o.op = .makeSlice t l' c') (ht : mkT P t es bytes zero = true) (hl : chkArg l l' = true) (hc : chkArg c c' = true) {K : Cont}
    {G : Goods} (hs : (AOp.mk es bytes zero l c).sem G σ.get σ.b K) : Told P w0 I0 σ a w o K := by
  intro next Q hK
  obtain ⟨tl, hl'⟩ := h.arg hl
  obtain ⟨tc, hc'⟩ := h.arg hc
  simp only [AOp.sem] at hs
  obtain ⟨kl, ln, hlv, hs⟩ := hl'.asI hs
  obtain ⟨kc, cn, hcv, hs⟩ := hc'.asI hs
  obtain ⟨h0, hlc, hby, hmx, hk⟩ := hs
  simp only [mkT, Bool.and_eq_true, Bool.not_eq_true'] at ht
  obtain ⟨⟨⟨⟨hsl, hz⟩, hzl⟩, hbt⟩, hes0⟩ := ht
  have hu := sliceT_inv hsl
  obtain ⟨it, z, hit, hzz, hco, hsz⟩ := zeroT_inv hz
  have hzl := Nat.eq_of_beq_eq_true hzl
  have hes0 : es ≠ 0 := by intro he; subst he; simp at hes0
  rw [hit] at hbt
  have hbt := Nat.eq_of_beq_eq_true hbt
  obtain ⟨hc1, hc2, hc3⟩ := constsOK_rel (g := g) (w := w) hco
  have hcs : z.cells.size = es := by simp at hc1; omega
  have hrun0 := run_make (P := P) w t (P.elem t) it z hu hit hzz kl kc ln cn h0 hlc (by rw [hbt]; omega) hmx
  rw [hsz, hzl] at hrun0
  have hmade : ∀ n k, k < n → (madeCells z.cells n)[k]? = some (z.cells[k % es]!) := fun n k hk => by
    unfold madeCells
    rw [Array.getElem?_map, Array.getElem?_range, if_pos hk, hcs]
    rfl
  obtain ⟨g', hr1, _, hr2⟩ := h.newRow (w' := w.alloc (.cells (madeCells z.cells (cn.toNat * es)) (P.elem t))) ((Below.refl _ _).alloc (Nat.le_refl _) _) (heap_alloc_new w _) es (List.replicate ln.toNat zero) cn.toNat
    (by simp; omega) (by simp only [maxLen]; omega) (by rw [size_madeCells, List.length_replicate]; exact Nat.mul_le_mul_right _ (by omega)) (fun x hx => by rw [List.eq_of_mem_replicate hx]; exact hzl) (fun j k x cc hj hk' => by
      have hjl : j < ln.toNat := by have := (List.getElem?_eq_some_iff.1 hj).1; simpa using this
      have hx : x = zero := List.eq_of_mem_replicate (List.mem_of_getElem? hj)
      subst hx
      have hkl : k < es := by have := (List.getElem?_eq_some_iff.1 hk').1; omega
      have hlt : j * es + k < cn.toNat * es := by
        have : (j + 1) * es ≤ cn.toNat * es := Nat.mul_le_mul_right _ (by omega)
        rw [Nat.add_mul] at this
        omega
      have hkz : z.cells[k]? = some (z.cells[k]'(by omega)) := Array.getElem?_eq_getElem _
      refine ⟨_, hmade _ _ hlt, ?_⟩
      rw [show (j * es + k) % es = k by rw [Nat.add_comm, Nat.add_mul_mod_self_right, Nat.mod_eq_of_lt hkl]]
      rw [getElem!_pos z.cells k (by omega)]
      exact ⟨hc2 _ (by simp), (hc3 k cc _ hk' (by simp) .none).rd⟩) o.dst
  have hfin := hr2 rfl (size_madeCells _ _)
  rw [List.length_replicate] at hfin
  have hrun : (execOp a.eval o).run P w = .ok (.value (.slice (some ⟨w.heap.size, 0, none⟩) ln.toNat cn.toNat)) (w.alloc (.cells (madeCells z.cells (cn.toNat * es)) (P.elem t))) := by
    simp only [execOp, ho, hlv, hcv]
    rw [Sem.run_bind, hrun0]
    rfl
  exact wp_val hrun (hK _ _ _ hk g' _ _ (hr1.put o.dst _ _ hfin (by simp [AV.ref])))
end
end Go.Proofs.Ytfkihagcgjombaa

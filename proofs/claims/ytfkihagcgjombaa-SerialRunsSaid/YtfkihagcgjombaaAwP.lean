/- A map of texts to numbers that is the call's own: made, counted up in, looked into: regions told as one step. No program's fact stands here. -/
import Derived.Test.YtfkihagcgjombaaAwO
import Derived.MapKept
namespace Go.Proofs.Ytfkihagcgjombaa
open Go.RowKit

section
variable {P : Program} {g : Gh} {w0 : World} {I0 : Cells} {σ : St} {a : Act} {w : World}

def mapT (P : Program) (t : TypeId) : Bool :=
  match P.underlying t with
  | some (.map k e) => (match P.underlying k with | some .string => true | _ => false) && (match P.info? e with | some i => (match i.zero with | some (.int .i64 0) => true | _ => false) | none => false)
  | _ => false
theorem mapT_inv {t : TypeId} (h : mapT P t = true) : ∃ k e i, P.underlying t = some (.map k e) ∧ P.underlying k = some .string ∧ P.info? e = some i ∧ i.zero = some (.int .i64 0) := by
  unfold mapT at h
  split at h
  · rename_i k e hm
    simp only [Bool.and_eq_true] at h
    obtain ⟨h1, h2⟩ := h
    split at h1
    · rename_i hk
      split at h2
      · rename_i i hi
        split at h2
        · rename_i hz
          exact ⟨k, e, i, hm, hk, hi, hz⟩
        · cases h2
      · cases h2
    · cases h1
  · cases h

/-- where a text stands, and what it has there -/
def lookL : List (List UInt8 × Int) → List UInt8 → Nat → Option (Nat × Value)
  | [], _, _ => none
  | p :: r, s, i => if p.1 = s then some (i, .int .i64 p.2) else lookL r s (i + 1)
abbrev mrow (p : List UInt8 × Int) : Value × Value := (Value.string (str p.1), Value.int .i64 p.2)
theorem findNow_L (s : List UInt8) : ∀ (es : List MapEntry) (L : List (List UInt8 × Int)) (i : Nat), es.map (fun e => (e.key, e.val)) = L.map mrow → Instr.findNow .string (.string (str s)) es i = some (lookL L s i)
  | [], [], i, _ => rfl
  | [], p :: L, i, h => by simp at h
  | e :: es, [], i, h => by simp at h
  | e :: es, p :: L, i, h => by
    simp only [List.map_cons, List.cons.injEq, Prod.mk.injEq] at h
    obtain ⟨⟨h1, h2⟩, h3⟩ := h
    unfold Instr.findNow lookL
    rw [h1, h2]
    by_cases hp : p.1 = s
    · rw [if_pos hp]
      have : Instr.sameNow .string (.string (str s)) (.string (str p.1)) = some true := by
        show some (str s == str p.1) = some true
        rw [hp, (MapKept.bytes_beq _ _).2 rfl]
      rw [this]
    · rw [if_neg hp]
      have : Instr.sameNow .string (.string (str s)) (.string (str p.1)) = some false := by
        show some (str s == str p.1) = some false
        rw [Bool.eq_false_iff.2 (fun he => hp (str_inj ((MapKept.bytes_beq _ _).1 he)).symm)]
      rw [this]
      exact findNow_L s es L (i + 1) h3
theorem lookL_none {s : List UInt8} : ∀ {L : List (List UInt8 × Int)} {i : Nat}, lookL L s i = none → valL L s = 0 ∧ ∀ v x, valL (L ++ [(s, v)]) x = if x = s then v else valL L x
  | [], i, _ => ⟨rfl, fun v x => by
    show (if s = x then v else 0) = _
    by_cases h : x = s
    · subst h; simp [valL]
    · rw [if_neg (fun h' => h h'.symm), if_neg h]; rfl⟩
  | p :: L, i, h => by
    unfold lookL at h
    split at h
    · cases h
    · rename_i hp
      obtain ⟨h1, h2⟩ := lookL_none h
      refine ⟨?_, fun v x => ?_⟩
      · unfold valL; rw [if_neg hp]; exact h1
      · show (if p.1 = x then p.2 else valL (L ++ [(s, v)]) x) = _
        rw [h2 v x]
        by_cases hx : p.1 = x
        · subst hx
          rw [if_pos rfl, if_neg hp]
          show _ = (if p.1 = p.1 then p.2 else _)
          rw [if_pos rfl]
        · rw [if_neg hx]
          show _ = (if x = s then v else (if p.1 = x then p.2 else valL L x))
          rw [if_neg hx]
theorem lookL_some {s : List UInt8} : ∀ {L : List (List UInt8 × Int)} {i j : Nat} {u : Value}, lookL L s i = some (j, u) → ∃ k, j = i + k ∧ k < L.length ∧ u = .int .i64 (valL L s) ∧ (∃ p, L[k]? = some p ∧ p.1 = s) ∧ ∀ v x, valL (L.set k (s, v)) x = if x = s then v else valL L x
  | [], i, j, u, h => by cases h
  | p :: L, i, j, u, h => by
    unfold lookL at h
    split at h
    · rename_i hp
      cases h
      refine ⟨0, by omega, by simp, ?_, ⟨p, rfl, hp⟩, fun v x => ?_⟩
      · unfold valL; rw [if_pos hp]
      · show (if s = x then v else valL L x) = (if x = s then v else (if p.1 = x then p.2 else valL L x))
        by_cases hx : x = s
        · subst hx; simp
        · rw [if_neg (fun h => hx h.symm), if_neg hx, if_neg (fun h => hx (by rw [← h, hp]))]
    · rename_i hp
      obtain ⟨k, h1, h2, h3, h4, h5⟩ := lookL_some h
      refine ⟨k + 1, by omega, by simpa using h2, ?_, by simpa using h4, fun v x => ?_⟩
      · rw [h3]; unfold valL; rw [if_neg hp]; cases L <;> rfl
      · show (if p.1 = x then p.2 else valL (L.set k (s, v)) x) = (if x = s then v else (if p.1 = x then p.2 else valL L x))
        rw [h5 v x]
        by_cases hx : p.1 = x
        · rw [if_pos hx, if_pos hx, if_neg (fun h => hp (by rw [hx, h]))]
        · rw [if_neg hx, if_neg hx]

theorem chk_str {kt : TypeId} (hk : P.underlying kt = some .string) (e : Bool) (s : ByteArray) : (Instr.checkKey e 10000 kt (.string s)).run P w = .ok () w := MapKept.run_checkKey (k := .string s) hk (by simp [MapKept.IsKey]) e 9999

theorem run_lookup_mp {t : TypeId} (ht : mapT P t = true) {r : Nat} {f : List UInt8 → Int} (hm : MapR w r f) (s : List UInt8) : (Instr.lookup t (.map (some r)) (.string (str s)) false).run P w = .ok (.int .i64 (f s)) w := by
  obtain ⟨k, e, i, h1, h2, h3, h4⟩ := mapT_inv ht
  obtain ⟨es, clock, L, hh, hL, hf⟩ := hm
  have hfn := findNow_L s es.toList L 0 hL
  have hkey := MapKept.run_findKey (P := P) (w := w) h2 hfn
  have hget := MapKept.run_getObj_map (P := P) hh
  have hc := chk_str (P := P) (w := w) h2 es.isEmpty (str s)
  rw [hf]
  cases hlk : lookL L s 0 with
  | none =>
    rw [hlk] at hkey
    rw [(lookL_none hlk).1]
    simp [Instr.lookup, run_underlying h1, hget, hc, hkey, zeroValue, typeInfo, h3, h4]
  | some q =>
    obtain ⟨j, u⟩ := q
    rw [hlk] at hkey
    obtain ⟨_, _, _, hu, _⟩ := lookL_some hlk
    simp [Instr.lookup, run_underlying h1, hget, hc, hkey, hu]

def setMap (w : World) (r : Nat) (o : Obj) : World := { w with heap := w.heap.setIfInBounds r o }
theorem run_mapUpdate_mp {t : TypeId} (ht : mapT P t = true) {r : Nat} {f : List UInt8 → Int} (hm : MapR w r f) (s : List UInt8) (v : Int) :
    ∃ o, (Instr.mapUpdate t (.map (some r)) (.string (str s)) (.int .i64 v)).run P w = .ok () (setMap w r o) ∧ MapR (setMap w r o) r (fun x => if x = s then v else f x) := by
  obtain ⟨k, e, i, h1, h2, h3, h4⟩ := mapT_inv ht
  obtain ⟨es, clock, L, hh, hL, hf⟩ := hm
  have hfn := findNow_L s es.toList L 0 hL
  have hkey := MapKept.run_findKey (P := P) (w := w) h2 hfn
  have hget := MapKept.run_getObj_map (P := P) hh
  have hc := chk_str (P := P) (w := w) h2 false (str s)
  have hst : ∀ o, (setObj r o).run P w = .ok () (setMap w r o) := fun o => MapKept.run_setObj_map (P := P) o hh
  have hnew : ∀ o, (setMap w r o).heap[r]? = some o := fun o => (MapKept.heap_set hh).1
  cases hlk : lookL L s 0 with
  | none =>
    rw [hlk] at hkey
    refine ⟨_, by simp [Instr.mapUpdate, run_underlying h1, hget, hc, hkey, hst]; rfl, _, _, L ++ [(s, v)], hnew _, ?_, fun x => ?_⟩
    · rw [Array.toList_push, List.map_append, List.map_append, hL]; rfl
    · simp only; rw [(lookL_none hlk).2 v x, hf x]
  | some q =>
    obtain ⟨j, u⟩ := q
    rw [hlk] at hkey
    obtain ⟨n, hj, hn, hu, ⟨p, hp, hps⟩, hset⟩ := lookL_some hlk
    have hjn : j = n := by omega
    subst hjn
    have hlen : es.toList.length = L.length := by have := congrArg List.length hL; simpa using this
    have hje : j < es.size := by simp at hlen; omega
    have hej : es[j]? = some es[j] := by simp [hje]
    have hkk : es[j].key = .string (str s) := by
      have h5 : (es.toList.map fun e => (e.key, e.val))[j]? = (L.map mrow)[j]? := by rw [hL]
      rw [List.getElem?_map, List.getElem?_map, hp] at h5
      simp [hje] at h5
      rw [h5.1, hps]
    have hks : (Instr.keyThatStays (.string (str s)) (.string (str s))).run P w = .ok (.string (str s)) w := MapKept.run_keyThatStays (d := .string) (by simp [MapKept.IsKey])
    refine ⟨_, by simp [Instr.mapUpdate, run_underlying h1, hget, hc, hkey, hej, hkk, hks, hst]; rfl, _, _, L.set j (s, v), hnew _, ?_, fun x => ?_⟩
    · apply List.ext_getElem?
      intro q
      rw [List.getElem?_map, List.getElem?_map, List.getElem?_set, Array.getElem?_toList, Array.getElem?_modify]
      have h5 : (es.toList.map fun e => (e.key, e.val))[q]? = (L.map mrow)[q]? := by rw [hL]
      rw [List.getElem?_map, List.getElem?_map, Array.getElem?_toList] at h5
      by_cases hq : j = q
      · subst hq
        simp [hje, hn]
      · rw [if_neg hq, if_neg hq]
        exact h5
    · simp only; rw [hset v x, hf x]
/-! the checks -/
def mkmOK (P : Program) (d m : Nat) (l : List Oper) : Bool :=
  match l with
  | [o1, o2] => (o1.guard.isNone && chkDst (some d) o1.dst && (match o1.op with | .makeMap _ none => true | _ => false)) && bareOp P (some m) (.cp (.t d)) o2
  | _ => false
def lkOK (P : Program) (d1 d2 d3 : Nat) (o : Oper) : Bool :=
  o.guard.isNone && chkDst (some d3) o.dst && (match o.op with | .lookup t (.tmp i) (.tmp j) false => Nat.beq i d1 && Nat.beq j d2 && mapT P t | _ => false)
def upOK (P : Program) (d1 d2 d4 : Nat) (o : Oper) : Bool :=
  o.guard.isNone && o.dst.isNone && (match o.op with | .mapUpdate t (.tmp i) (.tmp j) (.tmp k) => Nat.beq i d1 && Nat.beq j d2 && Nat.beq k d4 && mapT P t | _ => false)
def binOK (op : BinOp) (d3 d4 : Nat) (o : Oper) : Bool :=
  o.guard.isNone && chkDst (some d4) o.dst && (match o.op with | .binOp op' _ (.tmp i) (.const (.int .i64 1)) _ => decide (op = op') && Nat.beq i d3 | _ => false)
def apartL (m k d1 d2 d3 d4 : Nat) : Bool := neN d1 k && neN d2 d1 && neN d3 d1 && neN d3 d2 && neN d4 d1 && neN d4 d2 && neN d1 m && neN d2 m && neN d3 m && neN d4 m && Nat.ble d1 d4 && Nat.ble d2 d4 && Nat.ble d3 d4
def mincOK (P : Program) (m k d1 d2 d3 d4 : Nat) (l : List Oper) : Bool :=
  match l with
  | [o1, o2, o3, o4, o5] => bareOp P (some d1) (.cp (.t m)) o1 && bareOp P (some d2) (.cp (.t k)) o2 && lkOK P d1 d2 d3 o3 && binOK .add d3 d4 o4 && upOK P d1 d2 d4 o5 && apartL m k d1 d2 d3 d4
  | _ => false
def mgetOK (P : Program) (m k d1 d2 d3 d4 : Nat) (l : List Oper) : Bool :=
  match l with
  | [o1, o2, o3, o4] => bareOp P (some d1) (.cp (.t m)) o1 && bareOp P (some d2) (.cp (.t k)) o2 && lkOK P d1 d2 d3 o3 && binOK .eql d3 d4 o4 && apartL m k d1 d2 d3 d4
  | _ => false

theorem lk_run {d1 d2 d3 : Nat} {o : Oper} (h : lkOK P d1 d2 d3 o = true) {r : Nat} {f : List UInt8 → Int} (hm : MapR w r f) {s : List UInt8} (h1 : a.eval (.tmp d1) = .map (some r)) (h2 : a.eval (.tmp d2) = .string (str s)) :
    o.guard.isNone = true ∧ o.dst = some d3 ∧ (execOp a.eval o).run P w = .ok (.value (.int .i64 (f s))) w := by
  simp only [lkOK, Bool.and_eq_true] at h
  obtain ⟨⟨hg, hd⟩, h⟩ := h
  refine ⟨hg, (chkDst_inv hd).symm, ?_⟩
  split at h
  · rename_i t i j ho
    simp only [Bool.and_eq_true] at h
    obtain ⟨⟨e1, e2⟩, ht⟩ := h
    have e1 := Nat.eq_of_beq_eq_true e1
    have e2 := Nat.eq_of_beq_eq_true e2
    subst e1; subst e2
    simp only [execOp, ho, h1, h2]
    rw [Sem.run_bind, run_lookup_mp ht hm s]
    rfl
  · cases h
theorem add_run {d3 d4 : Nat} {o : Oper} (h : binOK .add d3 d4 o = true) {n : Int} (h1 : a.eval (.tmp d3) = .int .i64 n) :
    o.guard.isNone = true ∧ o.dst = some d4 ∧ (execOp a.eval o).run P w = .ok (.value (.int .i64 (IntKind.i64.wrap (n + 1)))) w := by
  simp only [binOK, Bool.and_eq_true] at h
  obtain ⟨⟨hg, hd⟩, h⟩ := h
  refine ⟨hg, (chkDst_inv hd).symm, ?_⟩
  split at h
  · rename_i op' t i u ho
    simp only [Bool.and_eq_true] at h
    obtain ⟨e1, e2⟩ := h
    have e1 := of_decide_eq_true e1
    have e2 := Nat.eq_of_beq_eq_true e2
    subst e1; subst e2
    simp only [execOp, ho, h1]
    simp [Act.eval, go_sem]
  · cases h
theorem eql_run {d3 d4 : Nat} {o : Oper} (h : binOK .eql d3 d4 o = true) {n : Int} (h1 : a.eval (.tmp d3) = .int .i64 n) :
    o.guard.isNone = true ∧ o.dst = some d4 ∧ (execOp a.eval o).run P w = .ok (.value (.bool (decide (n = 1)))) w := by
  simp only [binOK, Bool.and_eq_true] at h
  obtain ⟨⟨hg, hd⟩, h⟩ := h
  refine ⟨hg, (chkDst_inv hd).symm, ?_⟩
  split at h
  · rename_i op' t i u ho
    simp only [Bool.and_eq_true] at h
    obtain ⟨e1, e2⟩ := h
    have e1 := of_decide_eq_true e1
    have e2 := Nat.eq_of_beq_eq_true e2
    subst e1; subst e2
    simp only [execOp, ho, h1]
    simp [Act.eval, go_sem, decide_beq]
  · cases h

theorem mkm_told (h : Rel g w0 I0 σ a w) {id : Nat} {ops : Array Oper} {d m : Nat} (hc : mkmOK P d m ops.toList = true) (hd : d + 1 ≤ σ.v.length) (_hm : m + 1 ≤ σ.v.length) {Q : Exit → Act → World → Prop}
    (hQ : ∀ g' a' w', Rel g' w0 I0 ⟨(σ.v.set d .top).set m (.mp fun _ => 0), σ.b⟩ a' w' → Q .normal a' w') : (Code.region id ops false).wp P Q a w := by
  rcases ops with ⟨l⟩
  simp only at hc
  unfold mkmOK at hc
  split at hc
  · rename_i o1 o2
    simp only [Bool.and_eq_true] at hc
    obtain ⟨⟨⟨g1, e1⟩, k1⟩, k2⟩ := hc
    have e1 := (chkDst_inv e1).symm
    obtain ⟨g2, e2, c2⟩ := bare_inv k2
    have hsz := h.len
    refine wp_region ?_
    show wpOps P _ _ [0, 1] a w
    rw [wpOps_cons]
    split at k1
    · rename_i t ho
      have hrun : (execOp a.eval o1).run P w = .ok (.value (.map (some w.heap.size))) (w.alloc (.map #[] 0)) := by
        simp only [execOp, ho]
        rw [Sem.run_bind]
        show ((Instr.makeMap t none).run P w).andThen _ = _
        simp [Instr.makeMap]
      refine wpOp_bare rfl g1 (wp_val hrun ?_)
      rw [e1, wpOps_cons]
      refine wpOp_bare rfl g2 (wp_val (cp_run c2) ?_)
      rw [e2, evT_self _ _ _ (by omega)]
      show Q .normal _ _
      have hgr := h.fresh (w.alloc (.map #[] 0)) (fun _ _ => False) (fun _ => .slot m 0) ((Below.refl _ _).alloc (Nat.le_refl _) _) (fun _ _ hf => hf.elim)
      have hr := h.grew hgr
      have hr1 := hr.put (some d) .top (.map (some w.heap.size)) (fun t _ => SlotR.top _ _ _ _) (fun c hc => by cases hc)
      have hr2 := hr1.put (some m) (.mp fun _ => 0) (.map (some w.heap.size)) (fun t ht => by
        cases ht
        refine ⟨w.heap.size, rfl, by show g.base ≤ _; rw [h.size]; exact h.below.size, by show (if w.heap.size < w.heap.size then _ else _) = _; rw [if_neg (Nat.lt_irrefl _)], fun o hi => ?_, #[], 0, [], heap_alloc_new w _, rfl, fun s => rfl⟩
        rcases hi with hi | hi
        · exact absurd (h.I_lt hi) (Nat.lt_irrefl _)
        · exact hi) (fun c hc => by cases hc)
      exact hQ _ _ _ hr2
    · cases k1
  · cases hc

theorem SlotR.mp_inv {t : Nat} {f : List UInt8 → Int} {v : Value} (h : SlotR g w t (.mp f) v) : ∃ r, v = .map (some r) ∧ g.base ≤ r ∧ g.ow r = .slot t 0 ∧ (∀ o, ¬ g.I r o) ∧ MapR w r f := h

theorem minc_told (h : Rel g w0 I0 σ a w) {id : Nat} {ops : Array Oper} {m k d1 d2 d3 d4 : Nat} (hc : mincOK P m k d1 d2 d3 d4 ops.toList = true) {f : List UInt8 → Int} (hm : σ.get m = .mp f) {s : List UInt8} (hk : σ.get k = .str s) (hd : d4 + 1 ≤ σ.v.length) {Q : Exit → Act → World → Prop}
    (hQ : ∀ g' a' w', Rel g' w0 I0 ⟨((((σ.v.set m (.mp fun x => if x = s then IntKind.i64.wrap (f s + 1) else f x)).set d1 .top).set d2 .top).set d3 .top).set d4 .top, σ.b⟩ a' w' → Q .normal a' w') : (Code.region id ops false).wp P Q a w := by
  rcases ops with ⟨l⟩
  simp only at hc
  unfold mincOK at hc
  split at hc
  · rename_i o1 o2 o3 o4 o5
    simp only [Bool.and_eq_true] at hc
    obtain ⟨⟨⟨⟨⟨k1, k2⟩, k3⟩, k4⟩, k5⟩, hap⟩ := hc
    simp only [apartL, Bool.and_eq_true] at hap
    obtain ⟨⟨⟨⟨⟨⟨⟨⟨⟨⟨⟨⟨n1k, n21⟩, n31⟩, n32⟩, n41⟩, n42⟩, m1⟩, m2⟩, m3⟩, m4⟩, t1⟩, t2⟩, t3⟩ := hap
    have n1k := neN_inv n1k
    have n21 := neN_inv n21
    have n31 := neN_inv n31
    have n32 := neN_inv n32
    have n41 := neN_inv n41
    have n42 := neN_inv n42
    have t1 := Nat.le_of_ble_eq_true t1
    have t2 := Nat.le_of_ble_eq_true t2
    have t3 := Nat.le_of_ble_eq_true t3
    obtain ⟨g1, e1, c1⟩ := bare_inv k1
    obtain ⟨g2, e2, c2⟩ := bare_inv k2
    have hsz := h.len
    have hms := h.slots m
    rw [hm] at hms
    obtain ⟨r, hv, hb, how, hnI, hmr⟩ := hms.mp_inv
    have hks := h.slots k
    rw [hk] at hks
    have hkv : a.eval (.tmp k) = .string (str s) := hks.str_inv.1
    have hmv : a.eval (.tmp m) = .map (some r) := hv
    refine wp_region ?_
    show wpOps P _ _ [0, 1, 2, 3, 4] a w
    rw [wpOps_cons]
    refine wpOp_bare rfl g1 (wp_val (cp_run c1) ?_)
    rw [e1, hmv, wpOps_cons]
    refine wpOp_bare rfl g2 (wp_val (cp_run c2) ?_)
    rw [e2, evT_put _ _ _ _ n1k, hkv, wpOps_cons]
    obtain ⟨g3, e3, r3⟩ := lk_run (P := P) (a := (a.put (some d1) (.map (some r))).put (some d2) (.string (str s))) k3 hmr (s := s) (by rw [evT_put _ _ _ _ n21, evT_self _ _ _ (by omega)]) (evT_self _ _ _ (by rw [put_size]; omega))
    refine wpOp_bare rfl g3 (wp_val r3 ?_)
    rw [e3, wpOps_cons]
    obtain ⟨g4, e4, r4⟩ := add_run (P := P) (w := w) (a := ((a.put (some d1) (.map (some r))).put (some d2) (.string (str s))).put (some d3) (.int .i64 (f s))) k4 (evT_self _ _ _ (by simp only [put_size]; omega))
    refine wpOp_bare rfl g4 (wp_val r4 ?_)
    rw [e4, wpOps_cons]
    simp only [upOK, Bool.and_eq_true] at k5
    obtain ⟨⟨g5, e5⟩, k5⟩ := k5
    have e5 : o5.dst = none := by cases hq : o5.dst <;> simp [hq] at e5 ⊢
    split at k5
    · rename_i t i j q ho
      simp only [Bool.and_eq_true] at k5
      obtain ⟨⟨⟨q1, q2⟩, q3⟩, ht⟩ := k5
      have q1 := Nat.eq_of_beq_eq_true q1
      have q2 := Nat.eq_of_beq_eq_true q2
      have q3 := Nat.eq_of_beq_eq_true q3
      subst q1; subst q2; subst q3
      obtain ⟨ob, hrun, hmr'⟩ := run_mapUpdate_mp (P := P) ht hmr s (IntKind.i64.wrap (f s + 1))
      refine wpOp_bare rfl g5 ?_
      unfold Oper.wp
      simp only [execOp, ho]
      rw [evT_put _ _ _ _ n41, evT_put _ _ _ _ n31, evT_put _ _ _ _ n21, evT_self _ _ _ (by omega), evT_put _ _ _ _ n42, evT_put _ _ _ _ n32, evT_self _ _ _ (by rw [put_size]; omega), evT_self _ _ _ (by simp only [put_size]; omega)]
      simp only [Sem.run_bind, hrun, Result.andThen_ok, Sem.run_pure, Oper.upon]
      rw [e5]
      show Q .normal _ _
      have hother : ∀ c, c ≠ r → (setMap w r ob).heap[c]? = w.heap[c]? := fun c hc => by
        show (w.heap.setIfInBounds r ob)[c]? = _
        rw [Array.getElem?_setIfInBounds, if_neg (fun he => hc he.symm)]
      have hIne : ∀ c o, g.I c o → c ≠ r := fun c o hi he => hnI o (he ▸ hi)
      have hkeep : ∀ L, L ≠ .slot m 0 → Keep g w g (setMap w r ob) L := fun L hL =>
        ⟨rfl, fun _ _ => rfl, fun _ _ h => h, fun c o hi => cell?_of_heap (hother c (hIne c o hi)) o, fun c hlt hc => ⟨hc, hother c (fun he => hL (by rw [← hc, he, how])), fun _ h => h⟩, SzS.one hother fun cur2 e2 h2 => by obtain ⟨_, _, _, hh2, _⟩ := hmr; exact absurd (hh2.symm.trans h2) (by simp)⟩
      have hup := h.upd g (setMap w r ob) ⟨rfl, rfl, rfl, by show _ ≤ (w.heap.setIfInBounds r ob).size; simp, fun c hc => hother c (by omega)⟩ rfl rfl (fun _ _ _ => Iff.rfl) (fun c o hi => by
          obtain ⟨u, hu⟩ := h.ex c o hi
          exact ⟨u, (cell?_of_heap (hother c (hIne c o hi)) o).trans hu⟩) m (.mp fun x => if x = s then IntKind.i64.wrap (f s + 1) else f x) none .top undef (by simp)
        (fun t j ht _ => hkeep _ (by intro he; injection he with he _; exact ht he)) (fun b => hkeep _ (by simp)) (fun b i k => hkeep _ (by simp)) ⟨r, hv, hb, how, hnI, hmr'⟩ (fun t ht => by cases ht) (.inr rfl) (fun b hb => by cases hb)
      have hr1 := hup.put (some i) .top (.map (some r)) (fun t _ => SlotR.top _ _ _ _) (fun c hc => by cases hc)
      have hr2 := hr1.put (some j) .top (.string (str s)) (fun t _ => SlotR.top _ _ _ _) (fun c hc => by cases hc)
      have hr3 := hr2.put (some d3) .top (.int .i64 (f s)) (fun t _ => SlotR.top _ _ _ _) (fun c hc => by cases hc)
      have hr4 := hr3.put (some q) .top (.int .i64 (IntKind.i64.wrap (f s + 1))) (fun t _ => SlotR.top _ _ _ _) (fun c hc => by cases hc)
      exact hQ _ _ _ hr4
    · cases k5
  · cases hc

theorem mget_told (h : Rel g w0 I0 σ a w) {id : Nat} {ops : Array Oper} {m k d1 d2 d3 d4 : Nat} (hc : mgetOK P m k d1 d2 d3 d4 ops.toList = true) {f : List UInt8 → Int} (hm : σ.get m = .mp f) {s : List UInt8} (hk : σ.get k = .str s) (hd : d4 + 1 ≤ σ.v.length) {Q : Exit → Act → World → Prop}
    (hQ : ∀ g' a' w', Rel g' w0 I0 ⟨(((σ.v.set d1 .top).set d2 .top).set d3 .top).set d4 (.bool (decide (f s = 1))), σ.b⟩ a' w' → Q .normal a' w') : (Code.region id ops false).wp P Q a w := by
  rcases ops with ⟨l⟩
  simp only at hc
  unfold mgetOK at hc
  split at hc
  · rename_i o1 o2 o3 o4
    simp only [Bool.and_eq_true] at hc
    obtain ⟨⟨⟨⟨k1, k2⟩, k3⟩, k4⟩, hap⟩ := hc
    simp only [apartL, Bool.and_eq_true] at hap
    obtain ⟨⟨⟨⟨⟨⟨⟨⟨⟨⟨⟨⟨n1k, n21⟩, n31⟩, n32⟩, n41⟩, n42⟩, m1⟩, m2⟩, m3⟩, m4⟩, t1⟩, t2⟩, t3⟩ := hap
    have n1k := neN_inv n1k
    have n21 := neN_inv n21
    have t1 := Nat.le_of_ble_eq_true t1
    have t2 := Nat.le_of_ble_eq_true t2
    have t3 := Nat.le_of_ble_eq_true t3
    obtain ⟨g1, e1, c1⟩ := bare_inv k1
    obtain ⟨g2, e2, c2⟩ := bare_inv k2
    have hsz := h.len
    have hms := h.slots m
    rw [hm] at hms
    obtain ⟨r, hv, hb, how, hnI, hmr⟩ := hms.mp_inv
    have hks := h.slots k
    rw [hk] at hks
    have hkv : a.eval (.tmp k) = .string (str s) := hks.str_inv.1
    have hmv : a.eval (.tmp m) = .map (some r) := hv
    refine wp_region ?_
    show wpOps P _ _ [0, 1, 2, 3] a w
    rw [wpOps_cons]
    refine wpOp_bare rfl g1 (wp_val (cp_run c1) ?_)
    rw [e1, hmv, wpOps_cons]
    refine wpOp_bare rfl g2 (wp_val (cp_run c2) ?_)
    rw [e2, evT_put _ _ _ _ n1k, hkv, wpOps_cons]
    obtain ⟨g3, e3, r3⟩ := lk_run (P := P) (a := (a.put (some d1) (.map (some r))).put (some d2) (.string (str s))) k3 hmr (s := s) (by rw [evT_put _ _ _ _ n21, evT_self _ _ _ (by omega)]) (evT_self _ _ _ (by rw [put_size]; omega))
    refine wpOp_bare rfl g3 (wp_val r3 ?_)
    rw [e3, wpOps_cons]
    obtain ⟨g4, e4, r4⟩ := eql_run (P := P) (w := w) (a := ((a.put (some d1) (.map (some r))).put (some d2) (.string (str s))).put (some d3) (.int .i64 (f s))) k4 (evT_self _ _ _ (by simp only [put_size]; omega))
    refine wpOp_bare rfl g4 (wp_val r4 ?_)
    rw [e4]
    show Q .normal _ _
    have hr1 := h.put (some d1) .top (.map (some r)) (fun t _ => SlotR.top _ _ _ _) (fun c hc => by cases hc)
    have hr2 := hr1.put (some d2) .top (.string (str s)) (fun t _ => SlotR.top _ _ _ _) (fun c hc => by cases hc)
    have hr3 := hr2.put (some d3) .top (.int .i64 (f s)) (fun t _ => SlotR.top _ _ _ _) (fun c hc => by cases hc)
    have hr4 := hr3.put (some d4) (.bool (decide (f s = 1))) (.bool (decide (f s = 1))) (fun t _ => (Rd.bool _).slots (by simp) t) (fun c hc => by cases hc)
    exact hQ _ _ _ hr4
  · cases hc
end
end Go.Proofs.Ytfkihagcgjombaa

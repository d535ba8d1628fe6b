/- A slice that is made, laid into a cell, and filled by copy: two regions, one step. No program's fact stands here. -/
import Derived.Test.YtfkihagcgjombaaAwH
namespace Go.Proofs.Ytfkihagcgjombaa
open Go.RowKit

section
variable {P : Program} {g : Gh} {w0 : World} {I0 : Cells} {σ : St} {a : Act} {w : World}

def neN (a b : Nat) : Bool := !Nat.beq a b
theorem neN_inv {a b : Nat} (h : neN a b = true) : a ≠ b := by intro he; subst he; simp [neN] at h
def bareOp (P : Program) (d : Option Nat) (ao : AOp) (o : Oper) : Bool := o.guard.isNone && chkDst d o.dst && chkOp P ao o
def cpOK (P : Program) (es d6 d7 : Nat) (o : Oper) : Bool :=
  match o.op with
  | .call ⟨.builtin .copy, ⟨[.tmp i, .tmp j]⟩, ⟨[t, _]⟩⟩ => Nat.beq i d6 && Nat.beq j d7 && sliceT P t && sizeT P (P.elem t) es
  | _ => false
def cpyOK (P : Program) (es bytes : Nat) (zero : List AV) (off p x d1 d2 d3 d4 d5 d6 d7 d8 : Nat) (l1 l2 : List Oper) : Bool :=
  match l1, l2 with
  | [o1, o2, o3, o4, o5], [o6, o7, o8, o9] =>
    (bareOp P (some d1) (.cp (.t x)) o1 && bareOp P (some d2) (.len (.t d1)) o2 && bareOp P (some d3) (.mk es bytes zero (.t d2) (.t d2)) o3 && bareOp P (some d4) (.fa off (.t p)) o4 && bareOp P none (.stt (.t d4) d3) o5) &&
    (bareOp P (some d5) (.fa off (.t p)) o6 && bareOp P (some d6) (.ld none (.t d5)) o7 && bareOp P (some d7) (.cp (.t x)) o8 && (o9.guard.isNone && chkDst (some d8) o9.dst && cpOK P es d6 d7 o9)) &&
    (neN d1 p && neN d2 p && neN d3 p && neN d4 p && neN d1 x && neN d2 x && neN d3 x && neN d4 x && neN d5 x && neN d6 x && neN d4 d3 && neN d7 d6) &&
    (Nat.ble d1 d7 && Nat.ble d2 d7 && Nat.ble d3 d7 && Nat.ble d4 d7 && Nat.ble d5 d7 && Nat.ble d6 d7)
  | _, _ => false

theorem wpOp_bare {ops : Array Oper} {i : Nat} {o : Oper} (hi : ops[i]? = some o) (hg : o.guard.isNone = true) {next : Act → World → Prop} {Q : Exit → Act → World → Prop} (h : o.wp P a w next Q) : wpOp P ops Q i next a w := by
  unfold wpOp
  rw [hi]
  have hg' : o.guard = none := by cases hq : o.guard <;> simp [hq] at hg ⊢
  simp only [Region.wanted, hg', if_true]
  exact .inl h

theorem alloc_setRow (w : World) (M C A : Array Value) (e : TypeId) (b : Nat) (hb : b < w.heap.size) : ((w.alloc (.cells M e)).setRow b A).setRow w.heap.size C = (w.alloc (.cells C e)).setRow b A := by
  unfold World.setRow World.alloc
  simp only
  congr 1
  apply Array.ext_getElem?
  intro k
  simp only [Array.getElem?_modify, Array.getElem?_push]
  by_cases hk : w.heap.size = k
  · subst hk
    simp [Nat.ne_of_lt hb]
  · have hk' : ¬ k = w.heap.size := fun h => hk h.symm
    by_cases hbk : b = k
    · subst hbk; simp [hk, hk']
    · simp [hk, hk', hbk]

theorem run_copy_es {t u ty e : TypeId} {es n cap : Nat} (ht : P.underlying t = some (.slice e)) (hs : sizeT P e es = true) {blk gs o : Nat} {cur : Array Value} {e' : TypeId} {cs : List Value}
    (hh : w.heap[blk]? = some (.cells cur e' (0, 0))) (hn : cs.length = n * es) (hsz : cur.size = n * es) (hsrc : ∀ (j : Nat) v, cs[j]? = some v → w.cell? ⟨gs, o + j, none⟩ = some v) (h1 : ∀ v ∈ cs, v.oneCell' = true) :
    (Builtin.copy_ #[t, u] ty #[.slice (some ⟨blk, 0, none⟩) n n, .slice (some ⟨gs, o, none⟩) n cap]).run P w = .ok (goInt n) (w.setRow blk cs.toArray) := by
  have hl := run_loadCells_list (P := P) w ⟨gs, o, none⟩ cs (fun j v hj => by rw [Addr.add_lit]; exact hsrc j v hj)
  have hst := run_storeCells_at P blk 0 e' cs 0 cur w hh (by simp; omega) h1
  have e1 : (cur.toList.take (0 + 0) ++ cs ++ cur.toList.drop (0 + 0 + cs.length)).toArray = cs.toArray := by
    rw [List.drop_eq_nil_of_le (by simp; omega)]
    simp
  rw [e1] at hst
  rw [hn] at hl
  have hz := sizeT_run hs w
  have hm : n.min n = n := Nat.min_self n
  unfold Builtin.copy_
  simp [run_underlying ht, Builtin.lenOf, Builtin.firstCells, hz, hm, hl, hst]

theorem evT_put (a : Act) (d t : Nat) (v : Value) (h : d ≠ t) : (a.put (some d) v).eval (.tmp t) = a.eval (.tmp t) := by
  show ((a.put (some d) v).tmps).getD t undef = a.tmps.getD t undef
  rw [put_get, if_neg (fun hh => h hh.1)]
theorem evT_self (a : Act) (d : Nat) (v : Value) (h : d < a.tmps.size) : (a.put (some d) v).eval (.tmp d) = v := by
  show ((a.put (some d) v).tmps).getD d undef = v
  rw [put_get, if_pos ⟨rfl, h⟩]

theorem bare_inv {d : Option Nat} {ao : AOp} {o : Oper} (h : bareOp P d ao o = true) : o.guard.isNone = true ∧ o.dst = d ∧ chkOp P ao o = true := by
  simp only [bareOp, Bool.and_eq_true] at h
  exact ⟨h.1.1, (chkDst_inv h.1.2).symm, h.2⟩

theorem cp_run {t : Nat} {o : Oper} (h : chkOp P (.cp (.t t)) o = true) : (execOp a.eval o).run P w = .ok (.value (a.eval (.tmp t))) w := by
  simp only [chkOp] at h
  split at h
  · rename_i y ho
    cases y with
    | tmp m => have := Nat.eq_of_beq_eq_true h; subst this; simp [execOp, ho]
    | _ => cases h
  · rename_i y ho
    cases y with
    | tmp m => have := Nat.eq_of_beq_eq_true h; subst this; simp [execOp, ho]
    | _ => cases h
  · cases h
theorem len_run {t : Nat} {o : Oper} (h : chkOp P (.len (.t t)) o = true) {base : Option Addr} {n cap : Nat} (hv : a.eval (.tmp t) = .slice base n cap) : (execOp a.eval o).run P w = .ok (.value (.int .i64 (n : Int))) w := by
  simp only [chkOp] at h
  split at h
  · rename_i x' ty ho
    simp only [Bool.and_eq_true] at h
    obtain ⟨h1, h2⟩ := h
    have hu := sliceT_inv h1
    cases x' with
    | tmp m =>
      have := Nat.eq_of_beq_eq_true h2
      subst this
      simp only [execOp, ho, resolve, List.map_toArray, List.map_cons, List.map_nil, hv, pure_bind, invoke, builtin, Sem.run_bind]
      simp [Builtin.len_, run_underlying hu, goInt]
    | _ => cases h2
  · cases h
theorem fa_run {off t : Nat} {o : Oper} (h : chkOp P (.fa off (.t t)) o = true) {b n : Nat} (h1 : a.eval (.tmp t) = .pointer (some ⟨b, n, none⟩)) : (execOp a.eval o).run P w = .ok (.value (.pointer (some ⟨b, n + off, none⟩))) w := by
  simp only [chkOp] at h
  split at h
  · rename_i ty p' f ho
    simp only [Bool.and_eq_true] at h
    obtain ⟨ht, h2⟩ := h
    cases p' with
    | tmp m =>
      have := Nat.eq_of_beq_eq_true h2
      subst this
      unfold fieldT at ht
      split at ht
      · rename_i fs hu
        split at ht
        · rename_i d hd
          simp only [Bool.and_eq_true] at ht
          obtain ⟨h2, h3⟩ := ht
          have := Nat.eq_of_beq_eq_true h2
          subst this
          cases hi : P.info? d.type with
          | none => simp [hi] at h3
          | some i =>
            have hz : i.size ≠ 0 := by intro hz; simp [hi, hz] at h3
            simp [execOp, ho, h1, Instr.fieldAt, run_underlying hu, hd, Instr.sureAddr, fieldPlace, sizeOf, typeInfo, hi, hz, Addr.add_lit]
        · cases ht
      · cases ht
    | _ => cases h2
  · cases h
theorem mk_run {es bytes t : Nat} {zero : List AV} {o : Oper} (h : chkOp P (.mk es bytes zero (.t t) (.t t)) o = true) {n : Nat} (h1 : a.eval (.tmp t) = .int .i64 (n : Int)) (hby : n * bytes ≤ 140737488355328) (hmx : n ≤ maxLen) :
    es ≠ 0 ∧ ∃ M e, (execOp a.eval o).run P w = .ok (.value (.slice (some ⟨w.heap.size, 0, none⟩) n n)) (w.alloc (.cells M e)) ∧ M.size = n * es := by
  simp only [chkOp] at h
  split at h
  · rename_i ty l' c' ho
    simp only [Bool.and_eq_true] at h
    obtain ⟨⟨ht, h2⟩, h3⟩ := h
    cases l' with
    | tmp m =>
      have := Nat.eq_of_beq_eq_true h2
      subst this
      cases c' with
      | tmp m' =>
        have := Nat.eq_of_beq_eq_true h3
        subst this
        simp only [mkT, Bool.and_eq_true, Bool.not_eq_true'] at ht
        obtain ⟨⟨⟨⟨hsl, hz⟩, hzl⟩, hbt⟩, hes0⟩ := ht
        have hu := sliceT_inv hsl
        obtain ⟨it, z, hit, hzz, hco, hsz⟩ := zeroT_inv hz
        have hzl := Nat.eq_of_beq_eq_true hzl
        rw [hit] at hbt
        have hbt := Nat.eq_of_beq_eq_true hbt
        have hrun0 := run_make (P := P) w ty (P.elem ty) it z hu hit hzz .i64 .i64 n n (by omega) (Int.le_refl _) (by rw [hbt, Int.mul_comm]; omega) (by simp only [maxLen] at hmx; omega)
        refine ⟨by intro he; subst he; simp at hes0, _, P.elem ty, ?_, size_madeCells z.cells (n * es)⟩
        rw [hsz, hzl, Int.toNat_natCast] at hrun0
        simp only [execOp, ho, h1]
        rw [Sem.run_bind, hrun0]
        rfl
      | _ => cases h3
    | _ => cases h2
  · cases h
theorem ld_run {t : Nat} {o : Oper} (h : chkOp P (.ld none (.t t)) o = true) {ad : Addr} {v : Value} (h1 : a.eval (.tmp t) = .pointer (some ad)) (hc : w.cell? ad = some v) : (execOp a.eval o).run P w = .ok (.value v) w := by
  simp only [chkOp] at h
  split at h
  · rename_i ty p' ho
    simp only [Bool.and_eq_true] at h
    obtain ⟨ht, h2⟩ := h
    cases p' with
    | tmp m =>
      have := Nat.eq_of_beq_eq_true h2
      subst this
      have := run_loadVar_leaf (P := P) (t := ty) (ad := ad) ht hc
      simp only [execOp, ho, h1, Instr.loadAt, Instr.sureAddr, pure_bind]
      rw [Sem.run_bind, this]
      rfl
    | _ => cases h2
  · cases h
theorem stt_wp {t n : Nat} {o : Oper} (h : chkOp P (.stt (.t t) n) o = true) {b off : Nat} {v : Value} (h1 : a.eval (.tmp t) = .pointer (some ⟨b, off, none⟩)) (h2 : a.eval (.tmp n) = v) (hv : v.cells = #[v]) (ho1 : v.oneCell' = true)
    {cur : Array Value} {e : TypeId} (hh : w.heap[b]? = some (.cells cur e (0, 0))) (hfit : off + 1 ≤ cur.size) {next : Act → World → Prop} {Q : Exit → Act → World → Prop}
    (hK : next a (w.setRow b (cur.toList.take off ++ [v] ++ cur.toList.drop (off + 1)).toArray)) : o.wp P a w next Q := by
  simp only [chkOp] at h
  split at h
  · rename_i ty p' m ho
    simp only [Bool.and_eq_true] at h
    obtain ⟨⟨⟨h3, h4⟩, h5⟩, h6⟩ := h
    have := Nat.eq_of_beq_eq_true h3
    subst this
    cases p' with
    | tmp m' =>
      have := Nat.eq_of_beq_eq_true h6
      subst this
      have hst := run_storeVar_at (P := P) h4 (v := v) (b := b) (off := off) (by rw [hv]; rfl) hh hfit (fun u hu => by rw [hv] at hu; rw [show u = v from by simpa using hu]; exact ho1)
      have hd : o.dst = none := by cases hq : o.dst <;> simp [hq] at h5 ⊢
      unfold Oper.wp
      simp only [execOp, ho, h1, h2, Instr.storeAt, Instr.sureAddr, pure_bind, Sem.run_bind, hst, Result.andThen_ok, Sem.run_pure, Oper.upon]
      rw [hd]
      rw [hv]
      exact hK
    | _ => cases h6
  · cases h

theorem cpy_told (h : Rel g w0 I0 σ a w) {id1 id2 : Nat} {ops1 ops2 : Array Oper} {es bytes : Nat} {zero : List AV} {off p x d1 d2 d3 d4 d5 d6 d7 d8 : Nat} (hc : cpyOK P es bytes zero off p x d1 d2 d3 d4 d5 d6 d7 d8 ops1.toList ops2.toList = true)
    {p0 : Pm} {ys : List (List AV)} (hx : σ.get x = .sl p0 es ys) {b es1 i o : Nat} (hp : σ.get p = .ptr b es1 i o) {one : Bool} {xs : List (List AV)} (hb : σ.b[b]? = some (some ⟨one, es1, xs⟩)) (hlen : d7 + 1 ≤ σ.v.length)
    {y : List AV} (hy : xs[i]? = some y) (hoff : o + off + 1 ≤ y.length) (h0 : 0 < ys.length) (hby : ys.length * bytes ≤ 140737488355328) {Q : Exit → Act → World → Prop}
    (hQ : ∀ g' a' w', Rel g' w0 I0 ⟨(((((((σ.v.set d1 .top).set d2 .top).set d3 .top).set d4 .top).set d5 .top).set d6 .top).set d7 .top).set d8 .top, σ.b.set b (some ⟨one, es1, xs.set i (y.set (o + off) (.sl .sh es ys))⟩)⟩ a' w' → Q .normal a' w') :
    (Code.seq (.region id1 ops1 false) (.region id2 ops2 false)).wp P Q a w := by
  rcases ops1 with ⟨l1⟩
  rcases ops2 with ⟨l2⟩
  simp only at hc
  unfold cpyOK at hc
  split at hc
  · rename_i o1 o2 o3 o4 o5 o6 o7 o8 o9
    simp only [Bool.and_eq_true] at hc
    obtain ⟨⟨⟨⟨⟨⟨⟨k1, k2⟩, k3⟩, k4⟩, k5⟩, ⟨⟨⟨k6, k7⟩, k8⟩, ⟨k9g, k9d⟩, k9⟩⟩, hne⟩, hle⟩ := hc
    obtain ⟨⟨⟨⟨⟨⟨⟨⟨⟨⟨⟨n1, n2⟩, n3⟩, n4⟩, m1⟩, m2⟩, m3⟩, m4⟩, m5⟩, m6⟩, n43⟩, n76⟩ := hne
    obtain ⟨⟨⟨⟨⟨t1, t2⟩, t3⟩, t4⟩, t5⟩, t6⟩ := hle
    have t1 := Nat.le_of_ble_eq_true t1
    have t2 := Nat.le_of_ble_eq_true t2
    have t3 := Nat.le_of_ble_eq_true t3
    have t4 := Nat.le_of_ble_eq_true t4
    have t5 := Nat.le_of_ble_eq_true t5
    have t6 := Nat.le_of_ble_eq_true t6
    have n1 := neN_inv n1
    have n2 := neN_inv n2
    have n3 := neN_inv n3
    have n4 := neN_inv n4
    have m1 := neN_inv m1
    have m2 := neN_inv m2
    have m3 := neN_inv m3
    have m4 := neN_inv m4
    have m5 := neN_inv m5
    have m6 := neN_inv m6
    have n43 := neN_inv n43
    have n76 := neN_inv n76
    obtain ⟨g1, e1, c1⟩ := bare_inv k1
    obtain ⟨g2, e2, c2⟩ := bare_inv k2
    obtain ⟨g3, e3, c3⟩ := bare_inv k3
    obtain ⟨g4, e4, c4⟩ := bare_inv k4
    obtain ⟨g5, e5, c5⟩ := bare_inv k5
    obtain ⟨g6, e6, c6⟩ := bare_inv k6
    obtain ⟨g7, e7, c7⟩ := bare_inv k7
    obtain ⟨g8, e8, c8⟩ := bare_inv k8
    have e9 : o9.dst = some d8 := (chkDst_inv k9d).symm
    have hsz := h.len
    have hxs := h.slots x
    rw [hx] at hxs
    have hrd : Rd g.I w (.sl p0 es ys) (a.eval (.tmp x)) := hxs.sl_inv.rd
    generalize hv : a.eval (.tmp x) = v at hrd
    cases hrd with
    | sl _ _ _ base cap u hcap hmax hclip hnil hes' hbs hr =>
    obtain ⟨gs, og, rfl, hcell⟩ := hbs (by intro he; subst he; simp at h0)
    have hps := h.slots p
    rw [hp] at hps
    have hpv : a.eval (.tmp p) = .pointer (some ⟨g.bx b, i * es1 + o, none⟩) := hps
    obtain ⟨cur, ce, hh, hbase, how, hszc, hnI, hlenr, hcells⟩ := (h.boxes b _ hb).row hy
    simp only at hszc hlenr hcells
    have hyl : y.length = es1 := hlenr y (List.mem_of_getElem? hy)
    have hi : i < xs.length := (List.getElem?_eq_some_iff.1 hy).1
    have hfit : i * es1 + o + off + 1 ≤ cur.size := by
      have : (i + 1) * es1 ≤ xs.length * es1 := Nat.mul_le_mul_right _ hi
      rw [Nat.add_mul] at this
      omega
    have hBlt : g.bx b < w.heap.size := heap_lt hh
    -- what it copies
    obtain ⟨hes0, M, me, hmk, hM⟩ := mk_run (a := (a.put (some d1) (.slice (some ⟨gs, og, none⟩) ys.length cap)).put (some d2) (.int .i64 (ys.length : Int))) (w := w) c3 (n := ys.length) (evT_self _ _ _ (by rw [put_size]; omega)) hby (by omega)
    have hespos : 0 < es := Nat.pos_of_ne_zero hes0
    have hsrc0 : ∀ q, q < ys.length * es → g.I gs (og + q) ∧ w.cell? ⟨gs, og + q, none⟩ = some (u (q / es) (q % es)) ∧ (u (q / es) (q % es)).oneCell' = true ∧ ∀ (j k : Nat) z c, j * es + k = q → ys[j]? = some z → z[k]? = some c → Rd g.I w c (u (q / es) (q % es)) := fun q hq => by
      have hj : q / es < ys.length := (Nat.div_lt_iff_lt_mul hespos).2 hq
      have hk : q % es < es := Nat.mod_lt _ hespos
      have hz : ys[q / es]? = some (ys[q / es]) := List.getElem?_eq_getElem hj
      have hzl : ys[q / es].length = es := hes' _ (List.getElem_mem hj)
      have hc : (ys[q / es])[q % es]? = some ((ys[q / es])[q % es]'(by omega)) := List.getElem?_eq_getElem _
      have hq' : q / es * es + q % es = q := by rw [Nat.mul_comm]; exact Nat.div_add_mod q es
      obtain ⟨h1, h2, h3⟩ := hcell _ _ _ _ hz hc
      rw [hq'] at h1 h2
      refine ⟨h1, h2, h3, fun j k z c hjk hz' hc' => ?_⟩
      have hzl' := hes' z (List.mem_of_getElem? hz')
      have hkl : k < es := by have := (List.getElem?_eq_some_iff.1 hc').1; omega
      have hjj : q / es = j := by rw [← hjk, Nat.mul_comm, Nat.mul_add_div hespos, Nat.div_eq_of_lt hkl, Nat.add_zero]
      have hkk : q % es = k := by rw [← hjk, Nat.mul_comm, Nat.mul_add_mod, Nat.mod_eq_of_lt hkl]
      rw [hjj, hkk]
      exact hr _ _ _ _ hz' hc'
    obtain ⟨cs, hcsd⟩ : ∃ cs : List Value, cs = (List.range (ys.length * es)).map fun q => u (q / es) (q % es) := ⟨_, rfl⟩
    have hcsl : cs.length = ys.length * es := by rw [hcsd]; simp
    have hcsg : ∀ (q : Nat) v, cs[q]? = some v → q < ys.length * es ∧ v = u (q / es) (q % es) := fun q v hq => by
      have hlt : q < cs.length := (List.getElem?_eq_some_iff.1 hq).1
      rw [hcsd, List.getElem?_map, List.getElem?_range (by omega)] at hq
      exact ⟨by omega, (Option.some.inj hq).symm⟩
    have hcs1 : ∀ v ∈ cs, v.oneCell' = true := fun v hv => by
      obtain ⟨q, hq⟩ := List.mem_iff_getElem?.1 hv
      obtain ⟨hq1, rfl⟩ := hcsg q v hq
      exact (hsrc0 q hq1).2.2.1
    -- the relation at the end
    obtain ⟨gr, hrel, hrd2, _⟩ := h.newRow (w' := w.alloc (.cells cs.toArray me)) ((Below.refl _ _).alloc (Nat.le_refl _) _) (heap_alloc_new w _) es ys ys.length (Nat.le_refl _) (by omega) (by simp [hcsl]) hes' (fun j k z c hj hk => by
      have hzl' := hes' z (List.mem_of_getElem? hj)
      have hkl : k < es := by have := (List.getElem?_eq_some_iff.1 hk).1; omega
      have hjl : j < ys.length := (List.getElem?_eq_some_iff.1 hj).1
      have hlt : j * es + k < ys.length * es := by
        have : (j + 1) * es ≤ ys.length * es := Nat.mul_le_mul_right _ hjl
        rw [Nat.add_mul] at this
        omega
      obtain ⟨_, _, h3, h4⟩ := hsrc0 _ hlt
      refine ⟨_, ?_, h3, h4 j k z c rfl hj hk⟩
      rw [List.getElem?_toArray, hcsd, List.getElem?_map, List.getElem?_range hlt]
      rfl) none
    have hgb : gr.bx b = g.bx b := by
      have hps2 := hrel.slots p
      rw [hp] at hps2
      have h2 : a.eval (.tmp p) = .pointer (some ⟨gr.bx b, i * es1 + o, none⟩) := hps2
      rw [hpv] at h2
      injection h2 with h2
      injection h2 with h2
      injection h2 with h2
      exact h2.symm
    have hsh := hrd2 .sh (by simp) (by simp)
    obtain ⟨cur2, ce2, hh2, hfit2, hrel2⟩ := hrel.storeBox (off := o + off) hb hy [.sl .sh es ys] [.slice (some ⟨w.heap.size, 0, none⟩) ys.length ys.length] rfl (by simp; omega) (fun v hv => by rw [List.mem_singleton.1 hv]; rfl) (fun k c v hk hv => by
      cases k with
      | zero => cases hk; cases hv; exact LocR.of_rd hsh (by simp)
      | succ k => simp at hk)
    have hcur2 : cur2 = cur := by
      rw [hgb] at hh2
      have h3 : (w.alloc (.cells cs.toArray me)).heap[g.bx b]? = w.heap[g.bx b]? := by
        show (w.heap.push _)[g.bx b]? = _
        rw [Array.getElem?_push, if_neg (by omega)]
      rw [h3, hh] at hh2
      injection hh2 with hh2
      injection hh2 with hh2
      exact hh2.symm
    subst hcur2
    rw [hgb, show i * es1 + (o + off) = i * es1 + o + off by omega] at hrel2
    -- the walk
    refine wp_seq (wp_region ?_)
    show wpOps P _ _ [0, 1, 2, 3, 4] a w
    rw [wpOps_cons]
    refine wpOp_bare rfl g1 (wp_val (cp_run c1) ?_)
    rw [e1, hv, wpOps_cons]
    refine wpOp_bare rfl g2 (wp_val (len_run c2 (evT_self _ _ _ (by omega))) ?_)
    rw [e2, wpOps_cons]
    refine wpOp_bare rfl g3 (wp_val hmk ?_)
    rw [e3, wpOps_cons]
    refine wpOp_bare rfl g4 (wp_val (fa_run c4 (b := g.bx b) (n := i * es1 + o) (by rw [evT_put _ _ _ _ n3, evT_put _ _ _ _ n2, evT_put _ _ _ _ n1]; exact hpv)) ?_)
    rw [e4, wpOps_cons]
    refine wpOp_bare rfl g5 (stt_wp c5 (evT_self _ _ _ (by simp only [put_size]; omega)) (by rw [evT_put _ _ _ _ n43, evT_self _ _ _ (by simp only [put_size]; omega)]) rfl rfl (cur := cur2) (e := ce) (by
      show (w.heap.push _)[g.bx b]? = _
      rw [Array.getElem?_push, if_neg (by omega)]
      exact hh) hfit ?_)
    show Exit.then _ _ .normal _ _
    refine wp_region ?_
    show wpOps P _ _ [0, 1, 2, 3] _ _
    rw [wpOps_cons]
    refine wpOp_bare rfl g6 (wp_val (fa_run c6 (b := g.bx b) (n := i * es1 + o) (by rw [evT_put _ _ _ _ n4, evT_put _ _ _ _ n3, evT_put _ _ _ _ n2, evT_put _ _ _ _ n1]; exact hpv)) ?_)
    rw [e6, wpOps_cons]
    have hB1 : (w.alloc (.cells M me)).heap[g.bx b]? = some (.cells cur2 ce (0, 0)) := by
      show (w.heap.push _)[g.bx b]? = _
      rw [Array.getElem?_push, if_neg (by omega)]
      exact hh
    refine wpOp_bare rfl g7 (wp_val (ld_run c7 (evT_self _ _ _ (by simp only [put_size]; omega)) (v := .slice (some ⟨w.heap.size, 0, none⟩) ys.length ys.length) (by
      rw [cell_setRow_same _ _ _ _ _ _ _ hB1]
      have := spliced_get cur2 [.slice (some ⟨w.heap.size, 0, none⟩) ys.length ys.length] (i * es1 + o + off) (i * es1 + o + off) (by simpa using hfit)
      rw [if_pos (by simp)] at this
      simpa using this)) ?_)
    rw [e7, wpOps_cons]
    refine wpOp_bare rfl g8 (wp_val (cp_run c8) ?_)
    rw [e8, evT_put _ _ _ _ m6, evT_put _ _ _ _ m5, evT_put _ _ _ _ m4, evT_put _ _ _ _ m3, evT_put _ _ _ _ m2, evT_put _ _ _ _ m1, hv, wpOps_cons]
    unfold cpOK at k9
    split at k9
    · rename_i i6 i7 ct cu ho9
      simp only [Bool.and_eq_true] at k9
      obtain ⟨⟨⟨q1, q2⟩, q3⟩, q4⟩ := k9
      have q1 := Nat.eq_of_beq_eq_true q1
      have q2 := Nat.eq_of_beq_eq_true q2
      subst q1; subst q2
      have hcp := run_copy_es (P := P) (w := (w.alloc (.cells M me)).setRow (g.bx b) (cur2.toList.take (i * es1 + o + off) ++ [Value.slice (some ⟨w.heap.size, 0, none⟩) ys.length ys.length] ++ cur2.toList.drop (i * es1 + o + off + 1)).toArray) (u := cu) (ty := o9.type) (cap := cap) (sliceT_inv q3) q4 (blk := w.heap.size) (gs := gs) (o := og) (cur := M) (e' := me) (cs := cs) (by
        rw [setRow_other _ _ _ _ (by omega)]
        exact heap_alloc_new w _) hcsl hM (fun q v hq => by
          obtain ⟨hq1, rfl⟩ := hcsg q v hq
          obtain ⟨s1, s2, _, _⟩ := hsrc0 q hq1
          have hgs : gs ≠ g.bx b := fun he => hnI _ (he ▸ s1)
          rw [cell_setRow_other _ _ _ _ hgs]
          rw [← s2]
          refine cell?_of_heap ?_ _
          have := h.I_lt s1
          show (w.heap.push _)[gs]? = _
          rw [Array.getElem?_push, if_neg (by omega)]) hcs1
      rw [alloc_setRow _ _ _ _ _ _ hBlt] at hcp
      refine wpOp_bare rfl k9g (wp_val (v := goInt ys.length) (w' := (w.alloc (.cells cs.toArray me)).setRow (g.bx b) (cur2.toList.take (i * es1 + o + off) ++ [Value.slice (some ⟨w.heap.size, 0, none⟩) ys.length ys.length] ++ cur2.toList.drop (i * es1 + o + off + 1)).toArray) ?_ ?_)
      · simp only [execOp, ho9, resolve, List.map_toArray, List.map_cons, List.map_nil, pure_bind, invoke, builtin, Sem.run_bind]
        rw [evT_put _ _ _ _ n76, evT_self _ _ _ (by simp only [put_size]; omega), evT_self _ _ _ (by simp only [put_size]; omega), hcp]
        rfl
      · rw [e9]
        show Q .normal _ _
        have hr1 := hrel2.put (some d1) .top (.slice (some ⟨gs, og, none⟩) ys.length cap) (fun t _ => SlotR.top _ _ _ _) (fun c hc => by cases hc)
        have hr2 := hr1.put (some d2) .top (.int .i64 (ys.length : Int)) (fun t _ => SlotR.top _ _ _ _) (fun c hc => by cases hc)
        have hr3 := hr2.put (some d3) .top (.slice (some ⟨w.heap.size, 0, none⟩) ys.length ys.length) (fun t _ => SlotR.top _ _ _ _) (fun c hc => by cases hc)
        have hr4 := hr3.put (some d4) .top (.pointer (some ⟨g.bx b, i * es1 + o + off, none⟩)) (fun t _ => SlotR.top _ _ _ _) (fun c hc => by cases hc)
        have hr5 := hr4.put (some d5) .top (.pointer (some ⟨g.bx b, i * es1 + o + off, none⟩)) (fun t _ => SlotR.top _ _ _ _) (fun c hc => by cases hc)
        have hr6 := hr5.put (some i6) .top (.slice (some ⟨w.heap.size, 0, none⟩) ys.length ys.length) (fun t _ => SlotR.top _ _ _ _) (fun c hc => by cases hc)
        have hr7 := hr6.put (some i7) .top (.slice (some ⟨gs, og, none⟩) ys.length cap) (fun t _ => SlotR.top _ _ _ _) (fun c hc => by cases hc)
        have hr8 := hr7.put (some d8) .top (goInt ys.length) (fun t _ => SlotR.top _ _ _ _) (fun c hc => by cases hc)
        exact hQ _ _ _ hr8
    · cases k9
  · cases hc
end
end Go.Proofs.Ytfkihagcgjombaa

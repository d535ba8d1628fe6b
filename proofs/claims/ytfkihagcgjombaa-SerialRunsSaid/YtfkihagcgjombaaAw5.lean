/- Operations that only read are told rightly. No program's fact stands here. -/
import Derived.Test.YtfkihagcgjombaaAw4
namespace Go.Proofs.Ytfkihagcgjombaa
open Go.RowKit

section
variable {P : Program} {g : Gh} {w0 : World} {I0 : Cells} {σ : St} {a : Act} {w : World}

/-- what every rule here is to give -/
abbrev Told (P : Program) (w0 : World) (I0 : Cells) (σ : St) (a : Act) (w : World) (o : Oper) (K : Cont) : Prop :=
  ∀ (next : Act → World → Prop) (Q : Exit → Act → World → Prop), (∀ v ts bx, K v ts bx → ∀ g' a' w', Rel g' w0 I0 (σ.app o.dst v ts bx) a' w' → next a' w') → o.wp P a w next Q

theorem Rel.told (h : Rel g w0 I0 σ a w) {o : Oper} {K : Cont} {v : Value} {x : AV} (hrun : (execOp a.eval o).run P w = .ok (.value v) w)
    (hv : ∀ t, SlotR g w t x v) (hr : ∀ b, x.ref = some b → ∃ y, σ.b[b]? = some (some y)) (hk : K x none none) : Told P w0 I0 σ a w o K :=
  fun _ _ hK => h.val hrun hv hr (hK _ _ _ hk)

theorem asI_inv {x : AV} {K : Int → Prop} (h : asI x K) : ∃ k i, x = .int k i ∧ K i := by
  unfold asI at h
  split at h
  · exact ⟨_, _, rfl, h⟩
  · cases h
theorem SlotR.asI {t : Nat} {x : AV} {v : Value} {K : Int → Prop} (hx : SlotR g w t x v) (h : asI x K) : ∃ k i, v = .int k i ∧ K i := by
  obtain ⟨k, i, rfl, hk⟩ := asI_inv h
  exact ⟨k, i, hx.int_inv, hk⟩

theorem leafT_run {t : TypeId} (h : leafT P t = true) (w : World) : (isAgg t).run P w = .ok false w := by
  unfold leafT at h
  cases hu : P.underlying t with
  | none => simp [hu] at h
  | some d => cases d <;> simp [hu] at h <;> simp [isAgg, run_underlying hu]
theorem sizeT_run {t : TypeId} {n : Nat} (h : sizeT P t n = true) (w : World) : (sizeOf t).run P w = .ok n w := by
  unfold sizeT at h
  cases hu : P.info? t with
  | none => simp [hu] at h
  | some i =>
    simp only [hu] at h
    have := Nat.eq_of_beq_eq_true h
    subst this
    simp [sizeOf, typeInfo, hu]
theorem aggT_run {t : TypeId} {n : Nat} (h : aggT P t n = true) (w : World) : (isAgg t).run P w = .ok true w ∧ (sizeOf t).run P w = .ok n w := by
  unfold aggT at h
  simp only [Bool.and_eq_true] at h
  refine ⟨?_, sizeT_run h.2 w⟩
  cases hu : P.underlying t with
  | none => simp [hu] at h
  | some d => cases d <;> simp [hu] at h <;> simp [isAgg, run_underlying hu]
theorem run_loadVar_leaf {t : TypeId} {ad : Addr} {v : Value} (h : leafT P t = true) (hc : w.cell? ad = some v) : (loadVar t ad).run P w = .ok v w := by
  simp [loadVar, leafT_run h, hc]
theorem run_loadVar_agg {t : TypeId} {b o n : Nat} {vs : List Value} (h : aggT P t n = true) (hl : vs.length = n) (hc : ∀ (j : Nat) v, vs[j]? = some v → w.cell? ⟨b, o + j, none⟩ = some v) :
    (loadVar t ⟨b, o, none⟩).run P w = .ok (.agg vs.toArray) w := by
  obtain ⟨h1, h2⟩ := aggT_run h w
  have := run_loadCells_list (P := P) w ⟨b, o, none⟩ vs (fun j v hj => by rw [Addr.add_lit]; exact hc j v hj)
  subst hl
  simp [loadVar, h1, h2, this]

/-- the cells of an element that stays -/
theorem eptr_cells {cs : List AV} {blk o off n : Nat} {u : Nat → Value} (hc : ∀ (k : Nat) c, cs[k]? = some c → g.I blk (o + k) ∧ w.cell? ⟨blk, o + k, none⟩ = some (u k) ∧ (u k).oneCell' = true ∧ Rd g.I w c (u k)) (hn : off + n ≤ cs.length) :
    ∃ vs : List Value, vs.length = n ∧ (∀ (j : Nat) v, vs[j]? = some v → w.cell? ⟨blk, o + off + j, none⟩ = some v) ∧ Rd g.I w (.agg (((cs.drop off).take n).map AV.share)) (.agg vs.toArray) := by
  have key : ∀ j, j < n → ∃ c, cs[off + j]? = some c := fun j hj => ⟨cs[off + j], List.getElem?_eq_getElem (by omega)⟩
  refine ⟨(List.range n).map fun k => u (off + k), by simp, fun j v hj => ?_, .agg _ _ (by simp; omega) (fun v hv => ?_) fun j c v h1 h2 => ?_⟩
  · rw [List.getElem?_map] at hj
    obtain ⟨i, hi, rfl⟩ := Option.map_eq_some_iff.1 hj
    have hj' : j < n := by
      have := (List.getElem?_eq_some_iff.1 hi).1
      simpa using this
    have : i = j := by simp [List.getElem?_range hj'] at hi; exact hi.symm
    subst this
    obtain ⟨c, hcc⟩ := key i hj'
    rw [Nat.add_assoc]
    exact (hc _ _ hcc).2.1
  · obtain ⟨i, hi, rfl⟩ := List.mem_map.1 hv
    obtain ⟨c, hcc⟩ := key i (List.mem_range.1 hi)
    exact (hc _ _ hcc).2.2.1
  · rw [List.getElem?_map] at h1 h2
    obtain ⟨c', h3, rfl⟩ := Option.map_eq_some_iff.1 h1
    obtain ⟨i, hi, rfl⟩ := Option.map_eq_some_iff.1 h2
    have hj' : j < n := by
      have := (List.getElem?_eq_some_iff.1 hi).1
      simpa using this
    have : i = j := by simp [List.getElem?_range hj'] at hi; exact hi.symm
    subst this
    rw [List.getElem?_take, if_pos hj', List.getElem?_drop] at h3
    exact (hc _ _ h3).2.2.2.share

theorem share_not_own (c : AV) (es : Nat) (xs : List (List AV)) : c.share ≠ .sl .own es xs := by
  cases c with
  | sl p => cases p <;> simp [AV.share]
  | _ => simp [AV.share]
theorem Rd.ref {c : AV} {v : Value} (h : Rd g.I w c v) : c.ref = none := by cases h <;> rfl

theorem ld_core (h : Rel g w0 I0 σ a w) {t : TypeId} {n : Option Nat} {p : Arg} {p' : Operand} (ht : varT P t n = true) (hp : chkArg p p' = true) {K : Cont}
    {G : Goods} (hs : (AOp.ld n p).sem G σ.get σ.b K) : ∃ (x : AV) (ad : Addr) (v : Value), a.eval p' = .pointer (some ad) ∧ (loadVar t ad).run P w = .ok v w ∧ Rd g.I w x v ∧ (∀ es xs, x ≠ .sl .own es xs) ∧ K x none none := by
  obtain ⟨tx, hx⟩ := h.arg hp
  simp only [AOp.sem] at hs
  generalize hX : p.ev σ.get = X at hs hx
  split at hs
  · rename_i b es i off
    split at hs
    · rename_i one es' xs hb
      split at hs
      · rename_i hes
        subst hes
        have hbox := h.boxes b _ hb
        cases n with
        | none =>
          simp only [cellAt] at hs
          split at hs
          · cases hs
          · rename_i x hxi
            split at hs
            · cases hs
            · rename_i c hc
              obtain ⟨cur, e, hh, _, _, hsz, _, hlen, hcells⟩ := hbox.row hxi
              obtain ⟨u, hu, h1, h2⟩ := hcells _ _ _ _ hxi hc
              exact ⟨_, _, u, hx, run_loadVar_leaf ht (by rw [cell_of_row w _ _ cur e (0, 0) hh]; exact hu), h2.rd.share, share_not_own _, hs⟩
        | some m =>
          simp only at hs
          split at hs
          · cases hs
          · rename_i x hxi
            obtain ⟨cur, e, hh, _, _, hsz, _, hlen, hcells⟩ := hbox.row hxi
            split at hs
            · rename_i hle
              have hle' : off + m ≤ x.length := Nat.le_of_ble_eq_true hle
              have hxl : x.length = es := hlen x (List.mem_of_getElem? hxi)
              have hi : i < xs.length := (List.getElem?_eq_some_iff.1 hxi).1
              have hbound : i * es + off + m ≤ cur.size := by
                have hsz' : xs.length * es ≤ cur.size := hsz
                have : (i + 1) * es ≤ xs.length * es := Nat.mul_le_mul_right _ hi
                rw [Nat.add_mul] at this
                omega
              have hvs : ∀ (j : Nat) v, ((cur.toList.drop (i * es + off)).take m)[j]? = some v → j < m ∧ cur[i * es + (off + j)]? = some v := fun j v hj => by
                rw [List.getElem?_take] at hj
                split at hj
                · rw [List.getElem?_drop] at hj
                  exact ⟨by assumption, by rw [← Nat.add_assoc]; simpa using hj⟩
                · cases hj
              have hcell : ∀ j, j < m → ∃ c u, x[off + j]? = some c ∧ cur[i * es + (off + j)]? = some u ∧ u.oneCell' = true ∧ Rd g.I w c u := fun j hj => by
                have hc : x[off + j]? = some x[off + j] := List.getElem?_eq_getElem (by omega)
                obtain ⟨u, hu, h1, h2⟩ := hcells _ _ _ _ hxi hc
                exact ⟨_, u, hc, hu, h1, h2.rd⟩
              have hrd : Rd g.I w (.agg (((x.drop off).take m).map AV.share)) (.agg ((cur.toList.drop (i * es + off)).take m).toArray) := by
                refine .agg _ _ (by simp; omega) (fun v hv => ?_) fun j c v h1 h2 => ?_
                · obtain ⟨j, hj⟩ := List.mem_iff_getElem?.1 hv
                  obtain ⟨hjm, hcu⟩ := hvs j v hj
                  obtain ⟨c, u, _, h2, h3, _⟩ := hcell j hjm
                  rw [h2] at hcu; cases hcu; exact h3
                · obtain ⟨hjm, hcu⟩ := hvs j v h2
                  obtain ⟨c', u, h3, h4, _, h5⟩ := hcell j hjm
                  rw [h4] at hcu; cases hcu
                  rw [List.getElem?_map, List.getElem?_take, if_pos hjm, List.getElem?_drop, h3] at h1
                  cases h1
                  exact h5.share
              refine ⟨_, _, _, hx, run_loadVar_agg (vs := (cur.toList.drop (i * es + off)).take m) ht (by simp; omega) (fun j v hj => ?_), hrd, by simp, hs⟩
              obtain ⟨hjm, hcu⟩ := hvs j v hj
              rw [cell_of_row w _ _ cur e (0, 0) hh, Nat.add_assoc]
              exact hcu
            · cases hs
      · cases hs
    · cases hs
  · rename_i cs off
    obtain ⟨blk, o', u, hv, hc⟩ := hx
    cases n with
    | none =>
      simp only at hs
      split at hs
      · cases hs
      · rename_i c hcc
        obtain ⟨_, h2, _, h4⟩ := hc _ _ hcc
        exact ⟨_, _, _, hv, run_loadVar_leaf ht h2, h4.share, share_not_own _, hs⟩
    | some m =>
      simp only at hs
      split at hs
      · rename_i hle
        obtain ⟨vs, h1, h2, h3⟩ := eptr_cells hc (Nat.le_of_ble_eq_true hle)
        exact ⟨_, _, _, hv, run_loadVar_agg ht h1 h2, h3, by simp, hs⟩
      · cases hs
  · cases hs

theorem Rd.noRef {x : AV} {v : Value} (h : Rd g.I w x v) : ∀ b, x.ref = some b → ∃ y, σ.b[b]? = some (some y) := fun b hb => by rw [h.ref] at hb; cases hb
theorem snd_ld (h : Rel g w0 I0 σ a w) {o : Oper} {t : TypeId} {n : Option Nat} {p : Arg} {p' : Operand} (ho : o.op = .load t p') (ht : varT P t n = true) (hp : chkArg p p' = true) {K : Cont}
    {G : Goods} (hs : (AOp.ld n p).sem G σ.get σ.b K) : Told P w0 I0 σ a w o K := by
  obtain ⟨x, ad, v, h1, h2, h3, h4, hk⟩ := ld_core h ht hp hs
  refine h.told (v := v) ?_ (fun t => h3.slots h4 t) h3.noRef hk
  simp only [execOp, ho, h1, Instr.loadAt, Instr.sureAddr, pure_bind]
  rw [Sem.run_bind, h2]
  rfl

theorem snd_fa (h : Rel g w0 I0 σ a w) {o : Oper} {t : TypeId} {f off : Nat} {p : Arg} {p' : Operand} (ho : o.op = .fieldAddr t p' f) (ht : fieldT P t f off = true) (hp : chkArg p p' = true) {K : Cont}
    {G : Goods} (hs : (AOp.fa off p).sem G σ.get σ.b K) : Told P w0 I0 σ a w o K := by
  obtain ⟨tx, hx⟩ := h.arg hp
  have hrf := h.argRef hp
  simp only [AOp.sem] at hs
  generalize hX : p.ev σ.get = X at hs hx hrf
  have hrun : ∀ b n, a.eval p' = .pointer (some ⟨b, n, none⟩) → (execOp a.eval o).run P w = .ok (.value (.pointer (some ⟨b, n + off, none⟩))) w := fun b n h1 => by
    unfold fieldT at ht
    split at ht
    · rename_i fs hu
      split at ht
      · rename_i d hd
        simp only [Bool.and_eq_true] at ht
        obtain ⟨h2, h3⟩ := ht
        have := Nat.eq_of_beq_eq_true h2
        subst this
        cases hi : P.info? d.type with
        | none => simp [hi] at h3
        | some i =>
          have hz : i.size ≠ 0 := by intro hz; simp [hi, hz] at h3
          simp [execOp, ho, h1, Instr.fieldAt, run_underlying hu, hd, Instr.sureAddr, fieldPlace, sizeOf, typeInfo, hi, hz, Addr.add_lit]
      · cases ht
    · cases ht
  split at hs
  · rename_i b es i off'
    exact h.told (x := .ptr b es i (off' + off)) (hrun _ _ hx) (fun t => by show _ = _; rw [Nat.add_assoc]) hrf hs
  · rename_i cs off'
    obtain ⟨blk, o', u, hv, hc⟩ := hx
    exact h.told (x := .eptr cs (off' + off)) (hrun _ _ hv) (fun t => ⟨blk, o', u, by rw [Nat.add_assoc], hc⟩) (by simp [AV.ref]) hs
  · cases hs

def elemT (P : Program) (t : TypeId) (n : Option Nat) (es : Nat) : Bool :=
  match P.underlying t with
  | some (.slice e) => sizeT P e es && (match n with | none => true | some _ => false)
  | some (.array m e) => sizeT P e es && (match n with | none => false | some k => Nat.beq k m)
  | _ => false

theorem snd_ia (h : Rel g w0 I0 σ a w) {o : Oper} {t : TypeId} {es : Nat} {n : Option Nat} {x i : Arg} {x' i' : Operand} (ho : o.op = .indexAddr t x' i') (ht : elemT P t n es = true) (hx : chkArg x x' = true) (hi : chkArg i i' = true) {K : Cont}
    {G : Goods} (hs : (AOp.ia es n x i).sem G σ.get σ.b K) : Told P w0 I0 σ a w o K := by
  obtain ⟨tx, hx'⟩ := h.arg hx
  obtain ⟨ti, hi'⟩ := h.arg hi
  have hrf := h.argRef hx
  simp only [AOp.sem] at hs
  obtain ⟨kk, k, hk, hs⟩ := hi'.asI hs
  generalize hX : x.ev σ.get = X at hs hx' hrf
  have hslice : ∀ b off len cap, n = none → a.eval x' = .slice (some ⟨b, off, none⟩) len cap → 0 ≤ k → k < len → (execOp a.eval o).run P w = .ok (.value (.pointer (some ⟨b, off + k.toNat * es, none⟩))) w := fun b off len cap hn h1 h0 hlt => by
    unfold elemT at ht
    split at ht
    · rename_i e hu
      simp only [Bool.and_eq_true] at ht
      simp [execOp, ho, h1, hk, Instr.indexAt, asIntOf, run_underlying hu, h0, hlt, sizeT_run ht.1, Addr.add_lit]
    · subst hn
      simp at ht
    · cases ht
  have harray : ∀ b off m, n = some m → a.eval x' = .pointer (some ⟨b, off, none⟩) → 0 ≤ k → k < m → (execOp a.eval o).run P w = .ok (.value (.pointer (some ⟨b, off + k.toNat * es, none⟩))) w := fun b off m hn h1 h0 hlt => by
    unfold elemT at ht
    split at ht
    · subst hn
      simp at ht
    · rename_i m' e hu
      subst hn
      simp only [Bool.and_eq_true] at ht
      have := Nat.eq_of_beq_eq_true ht.2
      subst this
      simp [execOp, ho, h1, hk, Instr.indexAt, asIntOf, run_underlying hu, h0, hlt, sizeT_run ht.1, Addr.add_lit, Instr.sureAddr]
    · cases ht
  split at hs
  · rename_i p es' xs
    split at hs
    · rename_i hes
      subst hes
      obtain ⟨h0, hn, c, hc, hs⟩ := hs
      · have hlt : k.toNat < xs.length := (List.getElem?_eq_some_iff.1 hc).1
        have hn' : n = none := by cases n with | none => rfl | some _ => cases hn
        have hrd := hx'.sl_inv.rd
        generalize hv : a.eval x' = v at hrd
        cases hrd with
        | sl _ _ _ base cap u hcap hmax hclip hnil hes hb hr =>
          obtain ⟨gb, ob, hbase, hcc⟩ := hb (by intro hn; subst hn; simp at hlt)
          subst hbase
          refine h.told (x := .eptr c 0) (hslice gb ob _ _ hn' hv h0 (by omega)) (fun t => ⟨gb, ob + k.toNat * es, u k.toNat, rfl, fun j c' hj => ?_⟩) (by simp [AV.ref]) hs
          obtain ⟨h1, h2, h3⟩ := hcc _ _ _ _ hc hj
          rw [Nat.add_assoc]
          exact ⟨h1, h2, h3, hr _ _ _ _ hc hj⟩
    · cases hs
  · rename_i b es' off ln
    split at hs
    · rename_i hes
      subst hes
      obtain ⟨h0, hn, hlt, hs⟩ := hs
      have hn' : n = none := by cases n with | none => rfl | some _ => cases hn
      rcases hx' with ⟨cap, hv, _⟩ | ⟨hz, _⟩
      case inr => omega
      exact h.told (x := .ptr b es (off + k.toNat) 0) (hslice _ _ _ _ hn' hv h0 hlt) (fun t => by show _ = _; rw [← Nat.add_mul]; rfl) hrf hs
    · cases hs
  · rename_i b es0 i0 off
    cases n with
    | none => cases hs
    | some m =>
      obtain ⟨h0, hlt, hs⟩ := hs
      exact h.told (x := .ptr b es0 i0 (off + k.toNat * es)) (harray _ _ m rfl hx' h0 hlt) (fun t => by show _ = _; rw [Nat.add_assoc]) hrf hs
  · rename_i cs off
    cases n with
    | none => cases hs
    | some m =>
      obtain ⟨h0, hlt, hs⟩ := hs
      obtain ⟨blk, o', u, hv, hc⟩ := hx'
      exact h.told (x := .eptr cs (off + k.toNat * es)) (harray _ _ m rfl hv h0 hlt) (fun t => ⟨blk, o', u, by rw [Nat.add_assoc], hc⟩) (by simp [AV.ref]) hs
  · cases hs

theorem snd_ixS (h : Rel g w0 I0 σ a w) {o : Oper} {t : TypeId} {x i : Arg} {x' i' : Operand} (ho : o.op = .index t x' i') (ht : P.underlying t = some .string) (hx : chkArg x x' = true) (hi : chkArg i i' = true) {K : Cont}
    {G : Goods} (hs : (AOp.ixS x i).sem G σ.get σ.b K) : Told P w0 I0 σ a w o K := by
  obtain ⟨tx, hx'⟩ := h.arg hx
  obtain ⟨ti, hi'⟩ := h.arg hi
  simp only [AOp.sem] at hs
  obtain ⟨kk, k, hk, hs⟩ := hi'.asI hs
  generalize hX : x.ev σ.get = X at hs hx'
  split at hs
  · rename_i s
    obtain ⟨h0, c, hc, hs⟩ := hs
    · obtain ⟨hv, _⟩ := hx'.str_inv
      refine h.told (v := .int .u8 (c.toNat : Int)) ?_ (fun t => (Rd.int _ _).slots (by simp) t) (by simp [AV.ref]) hs
      have hg : (str s)[k.toNat]? = some c := by
        have hlt : k.toNat < (str s).size := (List.getElem?_eq_some_iff.1 hc).1
        rw [getElem?_pos (str s) k.toNat hlt, str_get]
        exact (List.getElem?_eq_some_iff.1 hc).2 ▸ rfl
      simp [execOp, ho, hv, hk, Instr.index, asIntOf, run_underlying ht, h0, hg]
  · cases hs

def arrT (P : Program) (t : TypeId) (n : Nat) : Bool :=
  match P.underlying t with
  | some (.array m e) => Nat.beq m n && leafT P e && sizeT P e 1
  | _ => false

theorem snd_ixA (h : Rel g w0 I0 σ a w) {o : Oper} {t : TypeId} {n : Nat} {x i : Arg} {x' i' : Operand} (ho : o.op = .index t x' i') (ht : arrT P t n = true) (hx : chkArg x x' = true) (hi : chkArg i i' = true) {K : Cont}
    {G : Goods} (hs : (AOp.ixA n x i).sem G σ.get σ.b K) : Told P w0 I0 σ a w o K := by
  obtain ⟨tx, hx'⟩ := h.arg hx
  obtain ⟨ti, hi'⟩ := h.arg hi
  simp only [AOp.sem] at hs
  obtain ⟨kk, k, hk, hs⟩ := hi'.asI hs
  generalize hX : x.ev σ.get = X at hs hx'
  split at hs
  · rename_i cs
    split at hs
    · rename_i hcl
      obtain ⟨h0, c, hc, hs⟩ := hs
      · have hrd := hx'.agg_inv
        generalize hv : a.eval x' = v at hrd
        cases hrd with
        | agg _ vs hl h1 hcs =>
          have hlt : k.toNat < cs.length := (List.getElem?_eq_some_iff.1 hc).1
          have hvk : vs[k.toNat]? = some vs[k.toNat] := List.getElem?_eq_getElem (by omega)
          have hr := hcs _ _ _ hc hvk
          refine h.told (v := vs[k.toNat]) ?_ (fun t => hr.loc.slot) (fun b hb => by rw [AV.ref_share, hr.ref] at hb; cases hb) hs
          unfold arrT at ht
          split at ht
          · rename_i m e hu
            simp only [Bool.and_eq_true] at ht
            obtain ⟨⟨h2, h3⟩, h4⟩ := ht
            have := Nat.eq_of_beq_eq_true h2
            subst this
            simp [execOp, ho, hv, hk, Instr.index, asIntOf, run_underlying hu, h0, show k < (m : Int) by omega, sizeT_run h4, part, leafT_run h3, hvk]
          · cases ht
    · cases hs
  · cases hs

def fldT (P : Program) (t : TypeId) (f off : Nat) (n : Option Nat) : Bool :=
  match P.underlying t with
  | some (.struct fs) => match fs[f]? with
    | some d => Nat.beq d.offset off && varT P d.type n
    | none => false
  | _ => false

theorem snd_fld (h : Rel g w0 I0 σ a w) {o : Oper} {t : TypeId} {f off : Nat} {n : Option Nat} {x : Arg} {x' : Operand} (ho : o.op = .field t x' f) (ht : fldT P t f off n = true) (hx : chkArg x x' = true) {K : Cont}
    {G : Goods} (hs : (AOp.fld off n x).sem G σ.get σ.b K) : Told P w0 I0 σ a w o K := by
  obtain ⟨tx, hx'⟩ := h.arg hx
  simp only [AOp.sem] at hs
  generalize hX : x.ev σ.get = X at hs hx'
  split at hs
  · rename_i cs
    have hrd := hx'.agg_inv
    generalize hv : a.eval x' = v at hrd
    cases hrd with
    | agg _ vs hl h1 hcs =>
      unfold fldT at ht
      split at ht
      · rename_i fs hu
        split at ht
        · rename_i d hd
          simp only [Bool.and_eq_true] at ht
          have := Nat.eq_of_beq_eq_true ht.1
          subst this
          cases n with
          | none =>
            simp only at hs
            split at hs
            · cases hs
            · rename_i c hc
              have hlt : d.offset < cs.length := (List.getElem?_eq_some_iff.1 hc).1
              have hvk : vs[d.offset]? = some vs[d.offset] := List.getElem?_eq_getElem (by omega)
              have hr := hcs _ _ _ hc hvk
              refine h.told (v := vs[d.offset]) ?_ (fun t => hr.loc.slot) (fun b hb => by rw [AV.ref_share, hr.ref] at hb; cases hb) hs
              simp [execOp, ho, hv, Instr.field, run_underlying hu, hd, asAgg, part, leafT_run ht.2, hvk]
          | some m =>
            simp only at hs
            split at hs
            · rename_i hle
              have hle' : d.offset + m ≤ cs.length := Nat.le_of_ble_eq_true hle
              have hr : Rd g.I w (.agg (((cs.drop d.offset).take m).map AV.share)) (.agg ((vs.drop d.offset).take m).toArray) := by
                refine .agg _ _ (by simp; omega) (fun v hv => h1 v (List.mem_of_mem_drop (List.mem_of_mem_take hv))) fun j c v h2 h3 => ?_
                rw [List.getElem?_map] at h2
                obtain ⟨c', h4, rfl⟩ := Option.map_eq_some_iff.1 h2
                rw [List.getElem?_take] at h3 h4
                split at h3
                · rename_i hj
                  rw [if_pos hj] at h4
                  rw [List.getElem?_drop] at h3 h4
                  exact (hcs _ _ _ h4 h3).share
                · cases h3
              refine h.told (v := .agg ((vs.drop d.offset).take m).toArray) ?_ (fun t => hr.slots (by simp) t) (by simp [AV.ref]) hs
              obtain ⟨h5, h6⟩ := aggT_run ht.2 w
              simp [execOp, ho, hv, Instr.field, run_underlying hu, hd, asAgg, part, h5, h6]
            · cases hs
        · cases ht
      · cases ht
  · cases hs
end
end Go.Proofs.Ytfkihagcgjombaa

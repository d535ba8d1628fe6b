/- More operations that only read are told rightly. No program's fact stands here. -/
import Derived.Test.YtfkihagcgjombaaAw5
namespace Go.Proofs.Ytfkihagcgjombaa
open Go.RowKit

section
variable {P : Program} {g : Gh} {w0 : World} {I0 : Cells} {σ : St} {a : Act} {w : World}

def sliceT (P : Program) (t : TypeId) : Bool :=
  match P.underlying t with
  | some (.slice _) => true
  | _ => false
theorem sliceT_inv {t : TypeId} (h : sliceT P t = true) : P.underlying t = some (.slice (P.elem t)) := by
  unfold sliceT at h
  split at h
  · rename_i e hu
    simp [Program.elem, hu]
  · cases h

theorem optI_inv (h : Rel g w0 I0 σ a w) {x : Option Arg} {y : Option Operand} (hc : chkO x y = true) {d : Int} {K : Int → Prop} (hs : optI (x.map (·.ev σ.get)) d K) :
    ∃ i, K i ∧ ((x = none ∧ y = none ∧ i = d) ∨ ∃ k y', y = some y' ∧ a.eval y' = .int k i) := by
  cases x with
  | none =>
    cases y with
    | none => exact ⟨d, hs, .inl ⟨rfl, rfl, rfl⟩⟩
    | some _ => cases hc
  | some x =>
    cases y with
    | none => cases hc
    | some y =>
      obtain ⟨t, ht⟩ := h.arg (x := x) (y := y) hc
      obtain ⟨k, i, hv, hk⟩ := ht.asI (K := K) hs
      exact ⟨i, hk, .inr ⟨k, y, rfl, hv⟩⟩

theorem run_bound (isSlice : Bool) (len cap : Nat) (lo hi mx : Option Value) (l h : Int) (m : Nat) (hl : (lo = none ∧ l = 0) ∨ ∃ k, lo = some (.int k l)) (hh : (hi = none ∧ mx = none ∧ h = len) ∨ ∃ k, hi = some (.int k h))
    (hm : (mx = none ∧ m = cap) ∨ ∃ k, mx = some (.int k (m : Int))) (hmc : m ≤ cap) (h0 : 0 ≤ l) (h1 : l ≤ h) (h2 : h ≤ m) (h3 : h ≤ cap) :
    (Instr.sliceBounds isSlice len cap lo hi mx).run P w = .ok (l.toNat, h.toNat, m) w := by
  have e1 : (h.toNat : Int) = h := Int.toNat_of_nonneg (by omega)
  rcases hm with ⟨rfl, rfl⟩ | ⟨km, rfl⟩
  · rcases hh with ⟨rfl, _, rfl⟩ | ⟨kh, rfl⟩
    · rcases hl with ⟨rfl, rfl⟩ | ⟨kl, rfl⟩
      · simp [Instr.sliceBounds]
      · simp [Instr.sliceBounds, run_sliceBound, h0, h1]
    · rcases hl with ⟨rfl, rfl⟩ | ⟨kl, rfl⟩
      · simp [Instr.sliceBounds, run_sliceBound, h2, show 0 ≤ h by omega]
      · simp [Instr.sliceBounds, run_sliceBound, h2, h0, show 0 ≤ h by omega, e1, h1]
  · rcases hh with ⟨rfl, hn, rfl⟩ | ⟨kh, rfl⟩
    · cases hn
    · rcases hl with ⟨rfl, rfl⟩ | ⟨kl, rfl⟩
      · simp [Instr.sliceBounds, run_sliceBound, h2, show 0 ≤ h by omega, show (m : Int) ≤ cap by omega]
      · simp [Instr.sliceBounds, run_sliceBound, h2, h0, show 0 ≤ h by omega, e1, h1, show (m : Int) ≤ cap by omega]

/-- a piece of what reads as a list -/
theorem Rd.sub {I : Cells} {p : Pm} {es : Nat} {xs : List (List AV)} {base : Option Addr} {len cap : Nat} (hr : Rd I w (.sl p es xs) (.slice base len cap)) {l h m : Nat} (h1 : l ≤ h) (h2 : h ≤ m) (h3 : m ≤ cap) (h4 : h ≤ xs.length)
    (q : Pm) (hq : q = .clip → m = h) (hq2 : q ≠ .nil) : Rd I w (.sl q es ((xs.take h).drop l)) (sliced base l h m es) := by
  cases hr with
  | sl _ _ _ _ _ u hcap hmax hclip hnil hes hb hr =>
    have hlen : ((xs.take h).drop l).length = h - l := by simp [List.length_take]; omega
    have hget : ∀ (j : Nat) x, ((xs.take h).drop l)[j]? = some x → xs[l + j]? = some x := fun j x hj => by
      rw [List.getElem?_drop, List.getElem?_take] at hj
      split at hj
      · exact hj
      · cases hj
    unfold sliced
    rw [← hlen]
    refine .sl q es _ _ _ (fun j => u (l + j)) (by omega) (by omega) (fun hqc => by have := hq hqc; omega) (fun hqn => absurd hqn hq2) (fun x hx => hes x (List.mem_of_mem_take (List.mem_of_mem_drop hx))) (fun hne => ?_) fun j k x c hj hk => hr _ _ _ _ (hget j x hj) hk
    have hlt : l < h := by
      rcases Nat.lt_or_ge l h with hlt | hge
      · exact hlt
      · exact absurd (List.eq_nil_of_length_eq_zero (by omega)) hne
    obtain ⟨gb, ob, hbase, hc⟩ := hb (by intro hn; subst hn; simp at h4; omega)
    subst hbase
    refine ⟨gb, ob + l * es, by rw [if_neg (by omega)]; simp [Addr.add_lit], fun j k x c hj hk => ?_⟩
    have := hc _ _ _ _ (hget j x hj) hk
    rw [show ob + l * es + (j * es + k) = ob + ((l + j) * es + k) by rw [Nat.add_mul]; omega]
    exact this

theorem snd_sub (h : Rel g w0 I0 σ a w) {o : Oper} {t : TypeId} {es : Nat} {x : Arg} {lo hi mx : Option Arg} {x' : Operand} {lo' hi' mx' : Option Operand} (ho : o.op = .slice t x' lo' hi' mx') (ht : sliceT P t = true) (hes : sizeT P (P.elem t) es = true) (hx : chkArg x x' = true) (hlo : chkO lo lo' = true) (hhi : chkO hi hi' = true) (hmx : chkO mx mx' = true) {K : Cont}
    {G : Goods} (hs : (AOp.sub es x lo hi mx).sem G σ.get σ.b K) : Told P w0 I0 σ a w o K := by
  obtain ⟨tx, hx'⟩ := h.arg hx
  have hu := sliceT_inv ht
  simp only [AOp.sem] at hs
  generalize hX : x.ev σ.get = X at hs hx'
  split at hs
  · rename_i p es' xs
    split at hs
    · rename_i hee
      subst hee
      have hrd := hx'.sl_inv.rd
      generalize hv : a.eval x' = v at hrd
      have hrd' := hrd
      cases hrd with
      | sl _ _ _ base cap u hcap hmax hclip hnil hes' hb hr =>
        obtain ⟨l, hs, hl⟩ := optI_inv h hlo hs
        obtain ⟨hh, hs, hhh⟩ := optI_inv h hhi hs
        have hl' : (lo'.map a.eval = none ∧ l = 0) ∨ ∃ k, lo'.map a.eval = some (.int k l) := by
          rcases hl with ⟨_, rfl, rfl⟩ | ⟨k, y, rfl, hy⟩
          · exact .inl ⟨rfl, rfl⟩
          · exact .inr ⟨k, by simp [hy]⟩
        cases mx with
        | none =>
          cases mx' with
          | some _ => cases hmx
          | none =>
            obtain ⟨h0, h1, h2, hk⟩ := hs
            have hh' : (hi'.map a.eval = none ∧ (none : Option Value) = none ∧ hh = xs.length) ∨ ∃ k, hi'.map a.eval = some (.int k hh) := by
              rcases hhh with ⟨_, rfl, rfl⟩ | ⟨k, y, rfl, hy⟩
              · exact .inl ⟨rfl, rfl, rfl⟩
              · exact .inr ⟨k, by simp [hy]⟩
            refine h.told (v := sliced base l.toNat hh.toNat cap es) ?_ (fun t => (hrd'.sub (by omega) (by omega) (Nat.le_refl _) (by omega) .sh (by simp) (by simp)).slots (by simp) t) (by simp [AV.ref]) hk
            simp only [execOp, ho, hv, Option.map_none]
            rw [Sem.run_bind, run_sliceAt_slice (h := hu), run_slice_any (ht := hu), run_bound true xs.length cap _ _ none l hh cap hl' hh' (.inl ⟨rfl, rfl⟩) (Nat.le_refl _) h0 h1 (by omega) (by omega)]
            simp [sizeT_run hes]
        | some m =>
          cases mx' with
          | none => cases hmx
          | some m' =>
            obtain ⟨tm, hm⟩ := h.arg (x := m) (y := m') hmx
            obtain ⟨km, mm, hmv, hs⟩ := hm.asI hs
            obtain ⟨hmh, h0, h1, h2, hk⟩ := hs
            subst hmh
            have hhi' : ∃ k, hi'.map a.eval = some (.int k mm) ∨ (hi'.map a.eval = none ∧ hi = none) := by
              rcases hhh with ⟨h5, rfl, _⟩ | ⟨k, y, rfl, hy⟩
              · exact ⟨.i64, .inr ⟨rfl, h5⟩⟩
              · exact ⟨k, .inl (by simp [hy])⟩
            obtain ⟨kh, hhi'⟩ := hhi'
            rcases hhi' with hhi' | ⟨_, hnone⟩
            · cases hi with
              | none => exact False.elim hk
              | some _ =>
              have e : ((mm.toNat : Nat) : Int) = mm := Int.toNat_of_nonneg (by omega)
              refine h.told (v := sliced base l.toNat mm.toNat mm.toNat es) ?_ (fun t => (hrd'.sub (m := mm.toNat) (by omega) (Nat.le_refl _) (by omega) (by omega) .clip (fun _ => rfl) (by simp)).slots (by simp) t) (by simp [AV.ref]) hk
              simp only [execOp, ho, hv, Option.map_some, hmv]
              rw [Sem.run_bind, run_sliceAt_slice (h := hu), run_slice_any (ht := hu), run_bound true xs.length cap _ _ _ l mm mm.toNat hl' (.inr ⟨kh, hhi'⟩) (.inr ⟨km, by rw [e]⟩) (by omega) h0 h1 (by omega) (by omega)]
              simp [sizeT_run hes]
            · subst hnone; exact False.elim hk
    · cases hs
  · cases hs

theorem snd_subS (h : Rel g w0 I0 σ a w) {o : Oper} {t : TypeId} {x : Arg} {lo hi : Option Arg} {x' : Operand} {lo' hi' : Option Operand} (ho : o.op = .slice t x' lo' hi' none) (hu : P.underlying t = some .string) (hx : chkArg x x' = true) (hlo : chkO lo lo' = true) (hhi : chkO hi hi' = true) {K : Cont}
    {G : Goods} (hs : (AOp.subS x lo hi).sem G σ.get σ.b K) : Told P w0 I0 σ a w o K := by
  obtain ⟨tx, hx'⟩ := h.arg hx
  simp only [AOp.sem] at hs
  generalize hX : x.ev σ.get = X at hs hx'
  split at hs
  · rename_i s
    obtain ⟨hv, hsl⟩ := hx'.str_inv
    obtain ⟨l, hs, hl⟩ := optI_inv h hlo hs
    obtain ⟨hh, hs, hhh⟩ := optI_inv h hhi hs
    obtain ⟨h0, h1, h2, hk⟩ := hs
    have hl' : (lo'.map a.eval = none ∧ l = 0) ∨ ∃ k, lo'.map a.eval = some (.int k l) := by
      rcases hl with ⟨_, rfl, rfl⟩ | ⟨k, y, rfl, hy⟩
      · exact .inl ⟨rfl, rfl⟩
      · exact .inr ⟨k, by simp [hy]⟩
    have hh' : (hi'.map a.eval = none ∧ (none : Option Value) = none ∧ hh = s.length) ∨ ∃ k, hi'.map a.eval = some (.int k hh) := by
      rcases hhh with ⟨_, rfl, rfl⟩ | ⟨k, y, rfl, hy⟩
      · exact .inl ⟨rfl, rfl, rfl⟩
      · exact .inr ⟨k, by simp [hy]⟩
    refine h.told (v := .string (str ((s.take hh.toNat).drop l.toNat))) ?_ (fun t => (Rd.str _ (by simp; omega)).slots (by simp) t) (by simp [AV.ref]) hk
    simp only [execOp, ho, hv, Option.map_none]
    rw [Sem.run_bind, run_sliceAt_string (h := hu)]
    have hb := run_bound (P := P) (w := w) false s.length s.length _ _ none l hh s.length hl' hh' (.inl ⟨rfl, rfl⟩) (Nat.le_refl _) h0 h1 h2 h2
    have hsz : (str s).size = s.length := rfl
    simp only [Instr.slice, Sem.run_bind, run_underlying hu, Result.andThen_ok, Option.isSome_none, Bool.false_eq_true, if_false, Sem.run_pure, hsz, hb]
    rw [str_extract, List.drop_take]
  · cases hs

theorem snd_ext (h : Rel g w0 I0 σ a w) {o : Oper} {i : Nat} {x : Arg} {x' : Operand} (ho : o.op = .extract x' i) (hx : chkArg x x' = true) {K : Cont}
    {G : Goods} (hs : (AOp.ext x i).sem G σ.get σ.b K) : Told P w0 I0 σ a w o K := by
  obtain ⟨tx, hx'⟩ := h.arg hx
  simp only [AOp.sem] at hs
  generalize hX : x.ev σ.get = X at hs hx'
  split at hs
  · rename_i vs
    split at hs
    · cases hs
    · rename_i c hc
      obtain ⟨us, hv, hl, hcs⟩ := hx'
      have hlt : i < vs.length := (List.getElem?_eq_some_iff.1 hc).1
      have hui : us[i]? = some us[i] := List.getElem?_eq_getElem (by omega)
      have hr := hcs _ _ _ hc hui
      exact h.told (v := us[i]) (by simp [execOp, ho, hv, Instr.extract, hui]) (fun t => (LocR.share hr).slot) (fun b hb => by rw [AV.ref_share, hr.rd.ref] at hb; cases hb) hs
  · cases hs

theorem snd_len (h : Rel g w0 I0 σ a w) {o : Oper} {t : TypeId} {x : Arg} {x' : Operand} (ho : o.op = .call { callee := .builtin .len, args := #[x'], argTypes := #[t] }) (ht : sliceT P t = true) (hx : chkArg x x' = true) {K : Cont}
    {G : Goods} (hs : (AOp.len x).sem G σ.get σ.b K) : Told P w0 I0 σ a w o K := by
  obtain ⟨tx, hx'⟩ := h.arg hx
  have hu := sliceT_inv ht
  simp only [AOp.sem] at hs
  generalize hX : x.ev σ.get = X at hs hx'
  have hrun : ∀ base n cap, a.eval x' = .slice base n cap → (execOp a.eval o).run P w = .ok (.value (.int .i64 (n : Int))) w := fun base n cap hv => by
    simp only [execOp, ho, resolve, List.map_toArray, List.map_cons, List.map_nil, hv, pure_bind, invoke, builtin, Sem.run_bind]
    simp [Builtin.len_, run_underlying hu, goInt]
  split at hs
  · rename_i p es xs
    have hrd := hx'.sl_inv.rd
    generalize hv : a.eval x' = v at hrd
    cases hrd with
    | sl _ _ _ base cap u hcap hmax hclip hnil hes' hb hr =>
      exact h.told (hrun _ _ _ hv) (fun t => (Rd.int _ _).slots (by simp) t) (by simp [AV.ref]) hs
  · rcases hx' with ⟨cap, hv, _⟩ | ⟨hz, _, hv⟩
    · exact h.told (hrun _ _ _ hv) (fun t => (Rd.int _ _).slots (by simp) t) (by simp [AV.ref]) hs
    subst hz
    exact h.told (hrun _ _ _ hv) (fun t => (Rd.int _ _).slots (by simp) t) (by simp [AV.ref]) hs
  · cases hs

theorem snd_lenS (h : Rel g w0 I0 σ a w) {o : Oper} {t : TypeId} {x : Arg} {x' : Operand} (ho : o.op = .call { callee := .builtin .len, args := #[x'], argTypes := #[t] }) (hu : P.underlying t = some .string) (hx : chkArg x x' = true) {K : Cont}
    {G : Goods} (hs : (AOp.lenS x).sem G σ.get σ.b K) : Told P w0 I0 σ a w o K := by
  obtain ⟨tx, hx'⟩ := h.arg hx
  simp only [AOp.sem] at hs
  generalize hX : x.ev σ.get = X at hs hx'
  split at hs
  · rename_i s
    obtain ⟨hv, _⟩ := hx'.str_inv
    refine h.told (v := .int .i64 (s.length : Int)) ?_ (fun t => (Rd.int _ _).slots (by simp) t) (by simp [AV.ref]) hs
    simp only [execOp, ho, resolve, List.map_toArray, List.map_cons, List.map_nil, hv, pure_bind, invoke, builtin, Sem.run_bind]
    simp [Builtin.len_, run_underlying hu, goInt, str_size]
  · cases hs

theorem run_mm (mx : Bool) : ∀ (r : List AV) (vs : List Value) (x : AV) (v : Value), Rd g.I w x v → r.length = vs.length → (∀ (i : Nat) c u, r[i]? = some c → vs[i]? = some u → ∃ t, SlotR g w t c u) → ∀ {K : AV → Prop}, foldMM mx x r K →
    ∃ R u, (vs.foldlM (if mx then Builtin.max2 else Builtin.min2) v).run P w = .ok u w ∧ Rd g.I w R u ∧ K R ∧ (∃ k n, R = .int k n)
  | [], vs, x, v, hx, hl, _, K, hk => by
    have : vs = [] := List.eq_nil_of_length_eq_zero (by simpa using hl.symm)
    subst this
    unfold foldMM at hk
    split at hk
    · exact ⟨_, v, rfl, hx, hk, _, _, rfl⟩
    · rename_i hc; cases hc
    · cases hk
  | c :: r, vs, x, v, hx, hl, hr, K, hk => by
    cases vs with
    | nil => simp at hl
    | cons u vs =>
      unfold foldMM at hk
      split at hk
      · rename_i hnil; cases hnil
      · rename_i k m k' n r' he
        cases he
        split at hk
        · rename_i hkk
          subst hkk
          obtain ⟨t, ht⟩ := hr 0 _ _ rfl rfl
          have hu := ht.int_inv
          subst hu
          cases hx
          have hstep : ((if mx then Builtin.max2 else Builtin.min2) (.int k m) (.int k n)).run P w = .ok (.int k (mmI mx m n)) w := by
            cases mx
            · simp only [Bool.false_eq_true, if_false, Builtin.min2, Sem.run_pure, mmI]; congr 2; omega
            · simp only [if_true, Builtin.max2, Sem.run_pure, mmI]; congr 2; omega
          obtain ⟨R, u, h1, h2, h3, h4⟩ := run_mm mx r vs _ _ (Rd.int k (mmI mx m n)) (by simpa using hl) (fun i c u h1 h2 => hr (i + 1) c u h1 h2) hk
          refine ⟨R, u, ?_, h2, h3, h4⟩
          rw [List.foldlM_cons, Sem.run_bind, hstep]
          exact h1
        · cases hk
      · cases hk
end
end Go.Proofs.Ytfkihagcgjombaa

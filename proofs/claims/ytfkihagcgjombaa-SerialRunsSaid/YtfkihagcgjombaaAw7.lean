/- Builds, conversions, comparisons of structs are told rightly. No program's fact stands here. -/
import Derived.Test.YtfkihagcgjombaaAw6
namespace Go.Proofs.Ytfkihagcgjombaa
open Go.RowKit

section
variable {P : Program} {g : Gh} {w0 : World} {I0 : Cells} {σ : St} {a : Act} {w : World}

def chkArgs : List Arg → List Operand → Bool
  | [], [] => true
  | x :: xs, y :: ys => chkArg x y && chkArgs xs ys
  | _, _ => false
theorem Rel.args (h : Rel g w0 I0 σ a w) : ∀ {xs : List Arg} {ys : List Operand}, chkArgs xs ys = true → xs.length = ys.length ∧ ∀ (i : Nat) c u, (xs.map fun x => x.ev σ.get)[i]? = some c → (ys.map a.eval)[i]? = some u → ∃ t, SlotR g w t c u
  | [], [], _ => ⟨rfl, fun i c u h1 h2 => by simp at h1⟩
  | [], y :: ys, hc => by simp [chkArgs] at hc
  | x :: xs, [], hc => by simp [chkArgs] at hc
  | x :: xs, y :: ys, hc => by
    simp only [chkArgs, Bool.and_eq_true] at hc
    obtain ⟨h1, h2⟩ := Rel.args h hc.2
    refine ⟨by simp [h1], fun i c u h3 h4 => ?_⟩
    cases i with
    | zero => simp at h3 h4; subst h3; subst h4; exact h.arg hc.1
    | succ i => exact h2 i c u (by simpa using h3) (by simpa using h4)

theorem snd_mm (h : Rel g w0 I0 σ a w) {o : Oper} {mx : Bool} {ts : Array TypeId} {xs : List Arg} {ys : Array Operand} (ho : o.op = .call { callee := .builtin (if mx then .max else .min), args := ys, argTypes := ts }) (hx : chkArgs xs ys.toList = true) {K : Cont}
    {G : Goods} (hs : (AOp.mm mx xs).sem G σ.get σ.b K) : Told P w0 I0 σ a w o K := by
  obtain ⟨hl, hr⟩ := h.args hx
  simp only [AOp.sem] at hs
  cases xs with
  | nil => cases hs
  | cons x r =>
    obtain ⟨ys⟩ := ys
    cases ys with
    | nil => simp at hl
    | cons y q =>
      simp only [List.map_cons] at hs hr
      obtain ⟨t, ht⟩ := hr 0 _ _ rfl rfl
      have hrd : ∃ k n, x.ev σ.get = .int k n := by
        generalize x.ev σ.get = X at hs
        cases X <;> first | exact ⟨_, _, rfl⟩ | exact False.elim hs | exact False.elim (by unfold foldMM at hs; exact hs)
      obtain ⟨k, n, hkn⟩ := hrd
      have hx0 : Rd g.I w (x.ev σ.get) (a.eval y) := by rw [hkn] at ht ⊢; exact ht.1
      obtain ⟨R, u, h1, h2, h3, k', n', h4⟩ := run_mm (P := P) mx (r.map fun x => x.ev σ.get) (q.map a.eval) _ _ hx0 (by simpa using hl) (fun i c u h1 h2 => hr (i + 1) c u (by simpa using h1) (by simpa using h2)) hs
      subst h4
      refine h.told (v := u) ?_ (fun t => h2.slots (by simp) t) (by simp [AV.ref]) h3
      cases mx <;> simp [execOp, ho, resolve, invoke, builtin, Builtin.max_, Builtin.min_] <;> simp at h1 <;> simp [h1]

def cvT (P : Program) (c : Cv) (src dst : TypeId) : Bool :=
  match c with
  | .int k => (P.underlying src).isSome && (match P.underlying dst with | some (.int k') => decide (k = k') | _ => false)
  | .id => (P.underlying src).isSome && (match P.underlying dst with | some .string => true | _ => false)
  | .str => (match P.underlying src with | some (.slice e) => (match P.underlying e with | some (.int .u8) => true | _ => false) | _ => false) && (match P.underlying dst with | some .string => true | _ => false)
  | .bytes => (match P.underlying dst with | some (.slice e) => (match P.underlying e with | some (.int .u8) => true | _ => false) | _ => false) && (match P.underlying src with | some .string => true | _ => false)

theorem snd_cv_int (h : Rel g w0 I0 σ a w) {o : Oper} {k : IntKind} {src dst : TypeId} {x : Arg} {x' : Operand} (ho : o.op = .convert src dst x') (ht : cvT P (.int k) src dst = true) (hx : chkArg x x' = true) {K : Cont}
    {G : Goods} (hs : (AOp.cv (.int k) x).sem G σ.get σ.b K) : Told P w0 I0 σ a w o K := by
  obtain ⟨tx, hx'⟩ := h.arg hx
  simp only [AOp.sem, cvK] at hs
  generalize hX : x.ev σ.get = X at hs hx'
  simp only [cvT, Bool.and_eq_true] at ht
  obtain ⟨d, hd⟩ := Option.isSome_iff_exists.1 ht.1
  split at hs
  · rename_i k' n
    have hv := hx'.int_inv
    refine h.told (v := .int k (k.wrap n)) ?_ (fun t => (Rd.int _ _).slots (by simp) t) (by simp [AV.ref]) hs
    have ht2 := ht.2
    split at ht2
    · rename_i k2 hk2
      simp only [decide_eq_true_eq] at ht2
      subst ht2
      simp only [execOp, ho, hv]
      cases d <;> simp [convert, run_underlying hd, run_underlying hk2, Conv.intToInt]
    · cases ht2
  · cases hs

theorem snd_cv_id (h : Rel g w0 I0 σ a w) {o : Oper} {src dst : TypeId} {x : Arg} {x' : Operand} (ho : o.op = .convert src dst x') (ht : cvT P .id src dst = true) (hx : chkArg x x' = true) {K : Cont}
    {G : Goods} (hs : (AOp.cv .id x).sem G σ.get σ.b K) : Told P w0 I0 σ a w o K := by
  obtain ⟨tx, hx'⟩ := h.arg hx
  simp only [AOp.sem, cvK] at hs
  generalize hX : x.ev σ.get = X at hs hx'
  simp only [cvT, Bool.and_eq_true] at ht
  obtain ⟨d, hd⟩ := Option.isSome_iff_exists.1 ht.1
  split at hs
  · rename_i s
    obtain ⟨hv, hsl⟩ := hx'.str_inv
    refine h.told (v := .string (str s)) ?_ (fun t => (Rd.str _ hsl).slots (by simp) t) (by simp [AV.ref]) hs
    have ht2 := ht.2
    split at ht2
    · rename_i hk2
      simp only [execOp, ho, hv]
      cases d <;> simp [convert, run_underlying hd, run_underlying hk2]
    · cases ht2
  · cases hs

theorem snd_cv_str (h : Rel g w0 I0 σ a w) {o : Oper} {src dst : TypeId} {x : Arg} {x' : Operand} (ho : o.op = .convert src dst x') (ht : cvT P .str src dst = true) (hx : chkArg x x' = true) {K : Cont}
    {G : Goods} (hs : (AOp.cv .str x).sem G σ.get σ.b K) : Told P w0 I0 σ a w o K := by
  obtain ⟨tx, hx'⟩ := h.arg hx
  simp only [AOp.sem, cvK] at hs
  generalize hX : x.ev σ.get = X at hs hx'
  simp only [cvT, Bool.and_eq_true] at ht
  split at hs
  · rename_i p es xs
    obtain ⟨rfl, s, rfl, hsl, hk⟩ := hs
    obtain ⟨ht1, ht2⟩ := ht
    split at ht1
    · rename_i e he
      split at ht1
      · rename_i hu8
        split at ht2
        · rename_i hst
          have hrd := hx'.sl_inv.rd
          generalize hv : a.eval x' = v at hrd
          cases hrd with
          | sl _ _ _ base cap u hcap hmax hclip hnil hes' hb hr =>
            refine h.told (v := .string (str s)) ?_ (fun t => (Rd.str _ hsl).slots (by simp) t) (by simp [AV.ref]) hk
            simp only [execOp, ho, hv]
            have hlen : (bytesAV s).length = s.length := by simp [bytesAV]
            rw [hlen, Sem.run_bind]
            cases base with
            | none =>
              have hs0 : s = [] := by
                cases s with
                | nil => rfl
                | cons b s =>
                  obtain ⟨gb, ob, hbase, _⟩ := hb (by simp [bytesAV])
                  cases hbase
              subst hs0
              have := run_convert_bytes_string (P := P) w src dst e none 0 cap he hu8 hst
              simp only [List.length_nil, this]
              rfl
            | some ad =>
              have := run_convert_bytes_back (P := P) w src dst e ad cap s he hu8 hst (fun j hj => by
                obtain ⟨gb, ob, hbase, hc⟩ := hb (by intro hn; rw [hn] at hlen; simp at hlen; omega)
                cases hbase
                have hx1 : (bytesAV s)[j]? = some [.int .u8 (s[j].toNat : Int)] := by simp [bytesAV, List.getElem?_eq_getElem hj]
                obtain ⟨_, h2, _⟩ := hc j 0 _ _ hx1 rfl
                have h3 := hr j 0 _ _ hx1 rfl
                cases hu : u j 0 with
                | int k n =>
                  rw [hu] at h3
                  cases h3
                  rw [Addr.add_lit, ← hu, ← h2]
                  congr 2
                  omega
                | _ => rw [hu] at h3; cases h3)
              rw [this]
              rfl
        · cases ht2
      · cases ht1
    · cases ht1
  · cases hs

/-! builds -/
theorem foldset_get (vs : Array Value) (off : Nat) : ∀ (cs : Array Value) (k : Nat),
    (vs.zipIdx.foldl (fun cs (p : Value × Nat) => cs.setIfInBounds (off + p.2) p.1) cs)[k]? = if off ≤ k ∧ k < off + vs.size ∧ k < cs.size then vs[k - off]? else cs[k]? := by
  obtain ⟨vs⟩ := vs
  have key : ∀ (l : List Value) (n : Nat) (cs : Array Value) (k : Nat),
      ((l.zipIdx n).foldl (fun cs (p : Value × Nat) => cs.setIfInBounds (off + p.2) p.1) cs)[k]? = if off + n ≤ k ∧ k < off + n + l.length ∧ k < cs.size then l[k - (off + n)]? else cs[k]? := by
    intro l
    induction l with
    | nil => intro n cs k; simp; omega
    | cons v l ih =>
      intro n cs k
      rw [List.zipIdx_cons, List.foldl_cons, ih]
      simp only [Array.size_setIfInBounds, Array.getElem?_setIfInBounds, List.length_cons]
      by_cases h1 : off + n = k
      · subst h1
        rw [if_neg (by omega)]
        by_cases h2 : off + n < cs.size
        · rw [if_pos rfl, if_pos h2, if_pos (by omega)]
          simp
        · rw [if_pos rfl, if_neg h2, if_neg (by omega)]
          simp; omega
      · rw [if_neg h1]
        by_cases h2 : off + (n + 1) ≤ k ∧ k < off + (n + 1) + l.length ∧ k < cs.size
        · rw [if_pos h2, if_pos (by omega), show k - (off + n) = (k - (off + (n + 1))) + 1 by omega]
          rfl
        · rw [if_neg h2, if_neg (by omega)]
  intro cs k
  have := key vs 0 cs k
  simp only [Nat.add_zero] at this
  rw [← Array.foldl_toList]
  simpa using this
theorem foldset_size (vs : Array Value) (off : Nat) (cs : Array Value) : (vs.zipIdx.foldl (fun cs (p : Value × Nat) => cs.setIfInBounds (off + p.2) p.1) cs).size = cs.size := by
  rw [← Array.foldl_toList]
  have key : ∀ (l : List (Value × Nat)) (cs : Array Value), (l.foldl (fun cs (p : Value × Nat) => cs.setIfInBounds (off + p.2) p.1) cs).size = cs.size := by
    intro l
    induction l with
    | nil => intro cs; rfl
    | cons v l ih => intro cs; rw [List.foldl_cons, ih, Array.size_setIfInBounds]
  exact key _ _
theorem putC_length (cs : List AV) : ∀ (off : Nat) (l : List AV), (putC l off cs).length = l.length := by
  induction cs with
  | nil => intro off l; rfl
  | cons c cs ih => intro off l; rw [putC, ih, List.length_set]
theorem putC_get (cs : List AV) : ∀ (off : Nat) (l : List AV) (k : Nat), (putC l off cs)[k]? = if off ≤ k ∧ k < off + cs.length ∧ k < l.length then cs[k - off]? else l[k]? := by
  induction cs with
  | nil => intro off l k; simp [putC]; omega
  | cons c cs ih =>
    intro off l k
    rw [putC, ih]
    simp only [List.length_set, List.getElem?_set, List.length_cons]
    by_cases h1 : off = k
    · subst h1
      rw [if_neg (by omega), if_pos rfl]
      by_cases h2 : off < l.length
      · rw [if_pos h2, if_pos (by omega)]; simp
      · rw [if_neg h2, if_neg (by omega)]; simp; omega
    · rw [if_neg h1]
      by_cases h2 : off + 1 ≤ k ∧ k < off + 1 + cs.length ∧ k < l.length
      · rw [if_pos h2, if_pos (by omega), show k - off = (k - (off + 1)) + 1 by omega]
        rfl
      · rw [if_neg h2, if_neg (by omega)]

theorem plain_inv {t : Nat} {x : AV} {v : Value} (hp : x.plain = true) (h : SlotR g w t x v) : LocR g w (.slot t 0) x v := by
  cases x <;> first | exact h | cases hp
/-- the cells of a plain value -/
theorem cells_rd {x : AV} {v : Value} (hp : x.plain = true) (h : Rd g.I w x v) : x.cells.length = v.cells.size ∧ (∀ u ∈ v.cells, u.oneCell' = true) ∧ ∀ (k : Nat) c u, x.cells[k]? = some c → v.cells[k]? = some u → Rd g.I w c u := by
  cases h with
  | top => cases hp
  | agg cs vs hl h1 hcs => exact ⟨by simp [AV.cells, Value.cells, hl], by simpa [Value.cells] using h1, fun k c u h2 h3 => hcs k c u h2 (by simpa [Value.cells] using h3)⟩
  | bool b => exact ⟨rfl, by simp [Value.cells, Value.oneCell'], fun k c u h2 h3 => by cases k <;> simp [AV.cells, Value.cells, AV.share] at h2 h3; subst h2; subst h3; exact .bool b⟩
  | int b n => exact ⟨rfl, by simp [Value.cells, Value.oneCell'], fun k c u h2 h3 => by cases k <;> simp [AV.cells, Value.cells, AV.share] at h2 h3; subst h2; subst h3; exact .int b n⟩
  | fn f => exact ⟨rfl, by simp [Value.cells, Value.oneCell'], fun k c u h2 h3 => by cases k <;> simp [AV.cells, Value.cells, AV.share] at h2 h3; subst h2; subst h3; exact .fn f⟩
  | str s hs => exact ⟨rfl, by simp [Value.cells, Value.oneCell'], fun k c u h2 h3 => by cases k <;> simp [AV.cells, Value.cells, AV.share] at h2 h3; subst h2; subst h3; exact .str s hs⟩
  | sl p es xs base cap u hcap hmax hclip hnil hes hb hr =>
    have := Rd.sl p es xs base cap u hcap hmax hclip hnil hes hb hr
    refine ⟨rfl, by simp [Value.cells, Value.oneCell'], fun k c u' h2 h3 => ?_⟩
    cases k with
    | succ k => simp [AV.cells] at h2
    | zero => simp [AV.cells, Value.cells] at h2 h3; subst h2; subst h3; exact this.share
end
end Go.Proofs.Ytfkihagcgjombaa

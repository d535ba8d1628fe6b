/- The check that an operation as data is the program's, and: operations that only compute are told rightly. No program's fact stands here. -/
import Derived.Test.YtfkihagcgjombaaAw3
namespace Go.Proofs.Ytfkihagcgjombaa
open Go.RowKit

def constOK : AV → Value → Bool
  | .top, _ => true
  | .bool b, .bool c => b == c
  | .int k n, .int k' m => decide (k = k') && decide (n = m)
  | .str s, .string t => decide (s = t.data.toList) && decide (s.length ≤ 1000000)
  | .sl p _ [], .slice none 0 0 => match p with
    | .own => true
    | .nil => true
    | _ => false
  | _, _ => false
def chkArg : Arg → Operand → Bool
  | .t n, .tmp m => Nat.beq n m
  | .c a, .const v => constOK a v
  | .c .top, .func _ => true
  | .c (.fn f), .func f' => Nat.beq f f'
  | _, _ => false
def chkO : Option Arg → Option Operand → Bool
  | none, none => true
  | some x, some y => chkArg x y
  | _, _ => false
def leafT (P : Program) (t : TypeId) : Bool :=
  match P.underlying t with
  | some (.struct _) => false
  | some (.array _ _) => false
  | some _ => true
  | none => false
def sizeT (P : Program) (t : TypeId) (n : Nat) : Bool :=
  match P.info? t with
  | some i => Nat.beq i.size n
  | none => false
def aggT (P : Program) (t : TypeId) (n : Nat) : Bool :=
  (match P.underlying t with
  | some (.struct _) => true
  | some (.array _ _) => true
  | _ => false) && sizeT P t n
def varT (P : Program) (t : TypeId) (n : Option Nat) : Bool :=
  match n with
  | none => leafT P t
  | some n => aggT P t n
def fieldT (P : Program) (t : TypeId) (f off : Nat) : Bool :=
  match P.underlying t with
  | some (.struct fs) => match fs[f]? with
    | some d => Nat.beq d.offset off && (match P.info? d.type with
      | some i => !Nat.beq i.size 0
      | none => false)
    | none => false
  | _ => false

theorem constOK_rd {a : AV} {v : Value} (h : constOK a v = true) (I : Cells) (w : World) : Rd I w a v := by
  unfold constOK at h
  split at h
  · exact .top _
  · simp only [beq_iff_eq] at h; subst h; exact .bool _
  · simp only [Bool.and_eq_true, decide_eq_true_eq] at h; obtain ⟨rfl, rfl⟩ := h; exact .int _ _
  · rename_i s t
    simp only [Bool.and_eq_true, decide_eq_true_eq] at h
    obtain ⟨rfl, h2⟩ := h
    exact .str _ (by simp only [maxLen]; omega)
  · exact .sl _ _ [] none 0 (fun _ _ => default) (by simp) (by simp) (by simp) (by simp) (by simp) (by simp) (by simp)
  · cases h
theorem constOK_loc {a : AV} {v : Value} (h : constOK a v = true) (g : Gh) (w : World) (L : Loc) : LocR g w L a v := by
  refine ⟨constOK_rd h _ _, fun es xs he => ?_⟩
  subst he
  unfold constOK at h
  split at h <;> first | contradiction | (exact .inl rfl)

section
variable {P : Program} {g : Gh} {w0 : World} {I0 : Cells} {σ : St} {a : Act} {w : World}

theorem Rel.arg (h : Rel g w0 I0 σ a w) {x : Arg} {y : Operand} (hc : chkArg x y = true) : ∃ t, SlotR g w t (x.ev σ.get) (a.eval y) := by
  unfold chkArg at hc
  split at hc
  · rename_i n m
    have : n = m := Nat.eq_of_beq_eq_true hc
    subst this
    exact ⟨n, h.slots n⟩
  · exact ⟨0, (constOK_loc hc g w _).slot⟩
  · exact ⟨0, SlotR.top _ _ _ _⟩
  · have := Nat.eq_of_beq_eq_true hc
    subst this
    exact ⟨0, (LocR.of_rd (L := .slot 0 0) (.fn _) (by simp)).slot⟩
  · cases hc
theorem Rel.argRef (h : Rel g w0 I0 σ a w) {x : Arg} {y : Operand} (hc : chkArg x y = true) : ∀ b, (x.ev σ.get).ref = some b → ∃ z, σ.b[b]? = some (some z) := by
  unfold chkArg at hc
  split at hc
  · exact h.refs _
  · rename_i c v
    intro b hb
    exfalso
    have hb' : c.ref = some b := hb
    cases c <;> simp [AV.ref, constOK] at hb' hc
  · intro b hb
    cases hb
  · intro b hb
    cases hb
  · cases hc

theorem wp_val {o : Oper} {next : Act → World → Prop} {Q : Exit → Act → World → Prop} {v : Value} {w' : World} (hrun : (execOp a.eval o).run P w = .ok (.value v) w')
    (h : next (a.put o.dst v) w') : o.wp P a w next Q := by
  unfold Oper.wp
  rw [hrun]
  exact h

/-- an operation that only computes -/
theorem Rel.val (h : Rel g w0 I0 σ a w) {o : Oper} {next : Act → World → Prop} {Q : Exit → Act → World → Prop} {v : Value} {x : AV} (hrun : (execOp a.eval o).run P w = .ok (.value v) w)
    (hv : ∀ t, SlotR g w t x v) (hr : ∀ b, x.ref = some b → ∃ y, σ.b[b]? = some (some y))
    (hK : ∀ g' a' w', Rel g' w0 I0 (σ.app o.dst x none none) a' w' → next a' w') : o.wp P a w next Q :=
  wp_val hrun (hK _ _ _ (h.put o.dst x v (fun t _ => hv t) hr))

theorem Rd.slots {x : AV} {v : Value} (h : Rd g.I w x v) (hn : ∀ es xs, x ≠ .sl .own es xs) (t : Nat) : SlotR g w t x v := (LocR.of_rd h hn).slot

theorem SlotR.int_inv {t : Nat} {k : IntKind} {n : Int} {v : Value} (h : SlotR g w t (.int k n) v) : v = .int k n := by cases h.1; rfl
theorem SlotR.bool_inv {t : Nat} {b : Bool} {v : Value} (h : SlotR g w t (.bool b) v) : v = .bool b := by cases h.1; rfl
theorem SlotR.str_inv {t : Nat} {s : List UInt8} {v : Value} (h : SlotR g w t (.str s) v) : v = .string (str s) ∧ s.length ≤ maxLen := by cases h.1 with | str _ h' => exact ⟨rfl, h'⟩
theorem SlotR.fn_inv {t f : Nat} {v : Value} (h : SlotR g w t (.fn f) v) : v = .func (.func f) #[] #[] := by cases h.1; rfl
theorem SlotR.agg_inv {t : Nat} {cs : List AV} {v : Value} (h : SlotR g w t (.agg cs) v) : Rd g.I w (.agg cs) v := h.1
theorem SlotR.sl_inv {t : Nat} {p : Pm} {es : Nat} {xs : List (List AV)} {v : Value} (h : SlotR g w t (.sl p es xs) v) : LocR g w (.slot t 0) (.sl p es xs) v := h

theorem snd_cp (h : Rel g w0 I0 σ a w) {o : Oper} {next : Act → World → Prop} {Q : Exit → Act → World → Prop} {x : Arg} {y : Operand} (ho : o.op = .move y ∨ o.op = .assign y) (hc : chkArg x y = true) {K : Cont}
    {G : Goods} (hs : (AOp.cp x).sem G σ.get σ.b K)
    (hK : ∀ v ts bx, K v ts bx → ∀ g' a' w', Rel g' w0 I0 (σ.app o.dst v ts bx) a' w' → next a' w') : o.wp P a w next Q := by
  have hrun : (execOp a.eval o).run P w = .ok (.value (a.eval y)) w := by rcases ho with ho | ho <;> simp [execOp, ho]
  cases x with
  | t n =>
    have hc' := hc
    obtain ⟨t, ht⟩ := h.arg hc
    exact h.val hrun (fun u => ht.cpy) (fun b hb => h.refs n b (by rw [← AV.ref_cpy]; exact hb)) (hK _ _ _ hs)
  | c c =>
    cases y with
    | const v =>
      have hr := h.argRef hc
      exact h.val hrun (fun u => (constOK_loc hc g w _).slot) hr (hK _ _ _ hs)
    | func f =>
      cases c with
      | top => exact h.val hrun (fun u => SlotR.top _ _ _ _) (fun b hb => by cases hb) (hK _ _ _ hs)
      | fn f' =>
        have := Nat.eq_of_beq_eq_true hc
        subst this
        exact h.val hrun (fun u => (LocR.of_rd (L := .slot u 0) (.fn _) (by simp)).slot) (fun b hb => by cases hb) (hK _ _ _ hs)
      | _ => cases hc
    | _ => cases hc

theorem snd_pick (h : Rel g w0 I0 σ a w) {o : Oper} {next : Act → World → Prop} {Q : Exit → Act → World → Prop} {c x y : Arg} {c' x' y' : Operand} (ho : o.op = .pick c' x' y') (hc : chkArg c c' = true) (hx : chkArg x x' = true) (hy : chkArg y y' = true)
    {b : Bool} (hb : c.ev σ.get = .bool b) {K : Cont} (hs : K ((if b then x else y).ev σ.get).cpy none none)
    (hK : ∀ v ts bx, K v ts bx → ∀ g' a' w', Rel g' w0 I0 (σ.app o.dst v ts bx) a' w' → next a' w') : o.wp P a w next Q := by
  obtain ⟨t, ht⟩ := h.arg hc
  rw [hb] at ht
  have hv := ht.bool_inv
  have hrun : (execOp a.eval o).run P w = .ok (.value (if b then a.eval x' else a.eval y')) w := by simp [execOp, ho, hv, asBool]
  cases b with
  | true =>
    obtain ⟨u, hu⟩ := h.arg hx
    exact h.val hrun (fun _ => hu.cpy) (fun b hb' => h.argRef hx b (by rw [← AV.ref_cpy]; exact hb')) (hK _ _ _ hs)
  | false =>
    obtain ⟨u, hu⟩ := h.arg hy
    exact h.val hrun (fun _ => hu.cpy) (fun b hb' => h.argRef hy b (by rw [← AV.ref_cpy]; exact hb')) (hK _ _ _ hs)

theorem decide_beqL (x y : List UInt8) : (x == y) = decide (x = y) := by by_cases h : x = y <;> simp [h]
theorem decide_beq (x y : Int) : (x == y) = decide (x = y) := by by_cases h : x = y <;> simp [h]

/-- what a binary operation leaves -/
theorem run_binK {op : BinOp} {t : TypeId} {ex ey : Operand} {x y : AV} {u v : Value} {tx ty : Nat} (hx : SlotR g w tx x u) (hy : SlotR g w ty y v) {K : AV → Prop} (hs : binK op x y K) :
    ∃ r R, (do eqGuard op t ex ey u v; binOp op t u v : Sem Value).run P w = .ok r w ∧ K R ∧ Rd g.I w R r ∧ R.ref = none ∧ (∀ es xs, R ≠ .sl .own es xs) := by
  unfold binK at hs
  split at hs
  · rename_i k m
    have hu := hx.int_inv
    subst hu
    split at hs
    · rename_i k' n
      have hv := hy.int_inv
      subst hv
      split at hs
      · obtain ⟨h0, hk⟩ := hs
        refine ⟨_, _, ?_, hk, .int _ _, rfl, by simp⟩
        simp [go_sem, Op.shift, show ¬ n < 0 by omega]
      · obtain ⟨h0, hk⟩ := hs
        refine ⟨_, _, ?_, hk, .int _ _, rfl, by simp⟩
        simp [go_sem, Op.shift, show ¬ n < 0 by omega]
      · split at hs
        · rename_i hkk
          subst hkk
          unfold binInt at hs
          split at hs
          · exact ⟨_, _, by simp [go_sem, Op.intArith], hs, .int _ _, rfl, by simp⟩
          · exact ⟨_, _, by simp [go_sem, Op.intArith], hs, .int _ _, rfl, by simp⟩
          · exact ⟨_, _, by simp [go_sem, Op.intArith], hs, .int _ _, rfl, by simp⟩
          · exact ⟨_, _, by simp [go_sem, Op.intDiv, hs.1], hs.2, .int _ _, rfl, by simp⟩
          · exact ⟨_, _, by simp [go_sem, Op.intDiv, hs.1], hs.2, .int _ _, rfl, by simp⟩
          · exact ⟨_, _, by simp only [go_sem, Op.intBits, Sem.run_pure, eqGuard_and, pure_bind], hs, .int _ _, rfl, by simp⟩
          · exact ⟨_, _, by simp only [go_sem, Op.intBits, Sem.run_pure, pure_bind], hs, .int _ _, rfl, by simp⟩
          · exact ⟨_, _, by simp only [go_sem, Op.intBits, Sem.run_pure, pure_bind], hs, .int _ _, rfl, by simp⟩
          · exact ⟨_, _, by simp [go_sem, decide_beq], hs, .bool _, rfl, by simp⟩
          · exact ⟨_, _, by simp [go_sem, bne, decide_beq], hs, .bool _, rfl, by simp⟩
          · exact ⟨_, _, by simp [go_sem], hs, .bool _, rfl, by simp⟩
          · exact ⟨_, _, by simp [go_sem], hs, .bool _, rfl, by simp⟩
          · exact ⟨_, _, by simp [go_sem], hs, .bool _, rfl, by simp⟩
          · exact ⟨_, _, by simp [go_sem], hs, .bool _, rfl, by simp⟩
          · cases hs
        · cases hs
    · cases hs
  · rename_i s
    obtain ⟨hu, hsl⟩ := hx.str_inv
    subst hu
    split at hs
    · rename_i s'
      obtain ⟨hv, hsl'⟩ := hy.str_inv
      subst hv
      split at hs
      · obtain ⟨hl, hk⟩ := hs
        refine ⟨_, _, ?_, hk, .str _ (by simpa using hl), rfl, by simp⟩
        have : ¬ (9223372036854775807 < (s.length : Int) + (s'.length : Int)) := by simp only [maxLen] at hl; omega
        simp [go_sem, Op.stringOp, this]
      · exact ⟨_, _, by simp [go_sem, decide_beqL], hs, .bool _, rfl, by simp⟩
      · exact ⟨_, _, by simp [go_sem, decide_beqL], hs, .bool _, rfl, by simp⟩
      · exact ⟨_, _, by simp [go_sem], hs, .bool _, rfl, by simp⟩
      · cases hs
    · cases hs
  · cases hs

theorem snd_bin (h : Rel g w0 I0 σ a w) {o : Oper} {next : Act → World → Prop} {Q : Exit → Act → World → Prop} {op : BinOp} {t u : TypeId} {x y : Arg} {x' y' : Operand} (ho : o.op = .binOp op t x' y' u)
    (hx : chkArg x x' = true) (hy : chkArg y y' = true) {K : Cont} (hs : binK op (x.ev σ.get) (y.ev σ.get) fun v => K v none none)
    (hK : ∀ v ts bx, K v ts bx → ∀ g' a' w', Rel g' w0 I0 (σ.app o.dst v ts bx) a' w' → next a' w') : o.wp P a w next Q := by
  obtain ⟨tx, hx'⟩ := h.arg hx
  obtain ⟨ty, hy'⟩ := h.arg hy
  obtain ⟨r, R, hrun, hk, hrd, hrf, hno⟩ := run_binK (P := P) (t := t) (ex := x') (ey := y') hx' hy' hs
  refine h.val (v := r) ?_ (fun t => hrd.slots hno t) (fun b hb => by rw [hrf] at hb; cases hb) (hK _ _ _ hk)
  simp only [execOp, ho]
  rw [Sem.run_bind, hrun]
  rfl

theorem snd_eqB (h : Rel g w0 I0 σ a w) {o : Oper} {next : Act → World → Prop} {Q : Exit → Act → World → Prop} {ne : Bool} {t u : TypeId} {x y : Arg} {x' y' : Operand} (ho : o.op = .binOp (if ne then .neq else .eql) t x' y' u)
    (ht : P.underlying t = some .bool) (hx : chkArg x x' = true) (hy : chkArg y y' = true) {p q : Bool} (hp : x.ev σ.get = .bool p) (hq : y.ev σ.get = .bool q) {K : Cont}
    (hs : K (.bool (if ne then !decide (p = q) else decide (p = q))) none none)
    (hK : ∀ v ts bx, K v ts bx → ∀ g' a' w', Rel g' w0 I0 (σ.app o.dst v ts bx) a' w' → next a' w') : o.wp P a w next Q := by
  obtain ⟨tx, hx'⟩ := h.arg hx
  obtain ⟨ty, hy'⟩ := h.arg hy
  rw [hp] at hx'; rw [hq] at hy'
  have e1 := hx'.bool_inv
  have e2 := hy'.bool_inv
  refine h.val (v := .bool (if ne then !decide (p = q) else decide (p = q))) ?_ (fun t => (Rd.bool _).slots (by simp) t) (by simp [AV.ref]) (hK _ _ _ hs)
  have hd : (p == q) = decide (p = q) := by cases p <;> cases q <;> rfl
  simp only [execOp, ho, e1, e2]
  cases ne <;> simp [eqGuard_at_bool, binOp, Op.equal, run_equalIn_bool' w _ t p q ht, Op.maxDepth, hd]

theorem snd_un (h : Rel g w0 I0 σ a w) {o : Oper} {next : Act → World → Prop} {Q : Exit → Act → World → Prop} {op : UnOp} {t : TypeId} {x : Arg} {x' : Operand} (ho : o.op = .unOp op t x')
    (hx : chkArg x x' = true) {K : Cont} (hs : unK op (x.ev σ.get) fun v => K v none none)
    (hK : ∀ v ts bx, K v ts bx → ∀ g' a' w', Rel g' w0 I0 (σ.app o.dst v ts bx) a' w' → next a' w') : o.wp P a w next Q := by
  obtain ⟨tx, hx'⟩ := h.arg hx
  generalize hX : x.ev σ.get = X at hs hx'
  unfold unK at hs
  split at hs
  · have e := hx'.bool_inv
    split at hs
    · exact h.val (by simp [execOp, ho, e, Op.unary]) (fun t => (Rd.bool _).slots (by simp) t) (by simp [AV.ref]) (hK _ _ _ hs)
    · cases hs
  · have e := hx'.int_inv
    split at hs
    · exact h.val (by simp [execOp, ho, e, Op.unary, Op.intArith]) (fun t => (Rd.int _ _).slots (by simp) t) (by simp [AV.ref]) (hK _ _ _ hs)
    · cases hs
  · cases hs
end
end Go.Proofs.Ytfkihagcgjombaa

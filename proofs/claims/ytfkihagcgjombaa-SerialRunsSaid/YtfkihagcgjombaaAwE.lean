/- append's two forms, and calls, are told rightly. No program's fact stands here. -/
import Derived.Test.YtfkihagcgjombaaAwD
namespace Go.Proofs.Ytfkihagcgjombaa
open Go.RowKit

section
variable {P : Program} {g : Gh} {w0 : World} {I0 : Cells} {σ : St} {a : Act} {w : World}

theorem snd_app (h : Rel g w0 I0 σ a w) {o : Oper} {t u : TypeId} {es bytes : Nat} {x y : Arg} {x' y' : Operand} (ho : o.op = .call { callee := .builtin .append, args := #[x', y'], argTypes := #[t, u] }) (ht : appT P t es bytes = true) (hu : srcT P u = true) (hx : chkArg x x' = true) (hy : chkArg y y' = true) (hd : ∀ n, x = .t n → o.dst ≠ some n) {K : Cont}
    {G : Goods} (hs : (AOp.app es bytes x y).sem G σ.get σ.b K) : Told P w0 I0 σ a w o K := by
  intro next Q hK
  obtain ⟨ty, hy'⟩ := h.arg hy
  simp only [AOp.sem] at hs
  split at hs
  · rename_i p es' xs hX
    split at hs
    · rename_i hee
      subst hee
      split at hs
      · rename_i q es'' ys hY
        split at hs
        · rename_i hee
          subst hee
          obtain ⟨hp, hmax, hby, hk⟩ := hs
          rw [hY] at hy'
          have hrd := hy'.sl_inv.rd
          generalize hv : a.eval y' = v at hrd
          have hrd' := hrd
          cases hrd with
          | sl _ _ _ base cap u' h1 h2 h3 h4 h5 h6 h7 =>
            obtain ⟨news, hsrc, hn, hyl, hnews⟩ := hrd'.first (P := P) h.ex
            have hk' : K (.sl .own es (xs ++ ys)) (x.after es xs) none := by cases x <;> exact hk
            exact app_core h ho ht hu hx hd hX (by rw [hv]; exact hsrc) hn hyl hnews hp hmax hby (hK _ _ _ hk')
        · cases hs
      · cases hs
    · cases hs
  · cases hs

theorem snd_appS (h : Rel g w0 I0 σ a w) {o : Oper} {t u : TypeId} {bytes : Nat} {x y : Arg} {x' y' : Operand} (ho : o.op = .call { callee := .builtin .append, args := #[x', y'], argTypes := #[t, u] }) (ht : appT P t 1 bytes = true) (hu : srcT P u = true) (hx : chkArg x x' = true) (hy : chkArg y y' = true) (hd : ∀ n, x = .t n → o.dst ≠ some n) {K : Cont}
    {G : Goods} (hs : (AOp.appS bytes x y).sem G σ.get σ.b K) : Told P w0 I0 σ a w o K := by
  intro next Q hK
  obtain ⟨ty, hy'⟩ := h.arg hy
  simp only [AOp.sem] at hs
  split at hs
  · rename_i p es xs hX
    split at hs
    · rename_i hee
      subst hee
      split at hs
      · rename_i s hY
        obtain ⟨hp, hmax, hby, hk⟩ := hs
        rw [hY] at hy'
        obtain ⟨hv, hsl⟩ := hy'.str_inv
        have hbl : (bytesAV s).length = s.length := by simp [bytesAV]
        have hcl : (bcells s).length = s.length := bcells_length s
        have hsrc : Src P w 1 (a.eval y') s.length (bcells s) := by
          rw [hv]
          refine ⟨fun w' => by simp [Builtin.lenOf, str_size], fun w' _ => ?_, by rw [hcl, Nat.mul_one], fun v hv' => ?_⟩
          · simp only [Builtin.firstCells, Sem.run_pure]
            rw [str_extract]
            simp [bcells, str]
          · obtain ⟨b, _, rfl⟩ := List.mem_map.1 hv'
            rfl
        have hk' : K (.sl .own 1 (xs ++ bytesAV s)) (x.after 1 xs) none := by cases x <;> exact hk
        refine app_core h ho ht hu hx hd hX hsrc hbl.symm (fun y hy => by obtain ⟨b, _, rfl⟩ := List.mem_map.1 hy; rfl) (fun j k y c hj hk => ?_) (by
          rcases hp with hp | hp | ⟨hp, hne⟩
          · exact .inl hp
          · exact .inr (.inl hp)
          · exact .inr (.inr ⟨hp, by intro he; apply hne; rw [he] at hbl; simpa using hbl.symm⟩)) (by rw [hbl]; exact hmax) (by rw [hbl]; exact hby) (hK _ _ _ hk')
        unfold bytesAV at hj
        rw [List.getElem?_map] at hj
        obtain ⟨b, hb, rfl⟩ := Option.map_eq_some_iff.1 hj
        cases k with
        | succ k => simp at hk
        | zero =>
          cases hk
          exact ⟨.int .u8 (b.toNat : Int), by simp [bcells, hb], .int _ _⟩
      · cases hs
    · cases hs
  · cases hs

/-! calls -/
def ArgsR (I : Cells) (w : World) (xs : List AV) (vs : List Value) : Prop := xs.length = vs.length ∧ ∀ (i : Nat) c u, xs[i]? = some c → vs[i]? = some u → Rd I w c u
def ResR (g : Gh) (w : World) (r : AV) (u : Value) : Prop :=
  match r with
  | .tuple rs => ∃ us : List Value, u = .tuple us.toArray ∧ us.length = rs.length ∧ ∀ (j : Nat) c u, rs[j]? = some c → us[j]? = some u → LocR g w (.res j) c u
  | r => LocR g w (.res 0) r u

/-- of arguments that read so the call leaves a result that reads so; all that was there is as it was -/
structure Good (P : Program) (f : FuncId) (xs : List AV) (r : AV) : Prop where
  out : ∀ (w : World) (I : Cells) (vs : List Value), (∀ b o, I b o → ∃ u, w.cell? ⟨b, o, none⟩ = some u) → ArgsR I w xs vs →
    Calls P f vs.toArray w fun e w' => ∃ (u : Value) (g' : Gh), e = .returned u ∧ Below w.heap.size w w' ∧ g'.base = w.heap.size ∧ (∀ b o, b < w.heap.size → (g'.I b o ↔ I b o)) ∧ (∀ b o, g'.I b o → ∃ u, w'.cell? ⟨b, o, none⟩ = some u) ∧ ResR g' w' r u

def callT (P : Program) (f : FuncId) : Bool :=
  match P.funcs[f]? with
  | some fn => !(fn.name == "runtime.NumGoroutine") && fn.body.isSome
  | none => false

theorem allHeld_inv : ∀ {l : List AV}, allHeld l = true → ∀ x ∈ l, x = .top ∨ x.plain = true
  | [], _, x, hx => by cases hx
  | a :: r, h, x, hx => by
    unfold allHeld at h
    split at h
    · rcases List.mem_cons.1 hx with rfl | hx
      · exact .inl rfl
      · exact allHeld_inv h x hx
    · split at h
      · rename_i hp
        rcases List.mem_cons.1 hx with rfl | hx
        · exact .inr hp
        · exact allHeld_inv h x hx
      · cases h
theorem Rd.shr {I : Cells} {w : World} {a : AV} {v : Value} (h : Rd I w a v) : Rd I w a.shr v := by
  cases h with
  | sl p es xs base cap u hcap hmax hclip hnil hes hb hr => exact .sl .sh es xs base cap u hcap hmax (by simp) (by simp) hes hb hr
  | top v => exact .top v
  | bool b => exact .bool b
  | int k n => exact .int k n
  | fn f => exact .fn f
  | str s h => exact .str s h
  | agg cs vs hl h1 h => exact .agg cs vs hl h1 h
theorem held_rd {t : Nat} {x : AV} {v : Value} (hp : x = .top ∨ x.plain = true) (h : SlotR g w t x v) : Rd g.I w x.shr v := by
  rcases hp with rfl | hp
  · exact .top v
  · exact (plain_inv hp h).rd.shr
theorem run_equalIn_nil' (w : World) (d : Nat) (t e : TypeId) (a : Option Addr) (l c : Nat) (h : P.underlying t = some (.slice e)) : (Op.equalIn (d + 1) t (.slice a l c) (.slice none 0 0)).run P w = .ok a.isNone w := by
  cases a <;> simp [Op.equalIn, run_underlying h]
theorem snd_nilQ (h : Rel g w0 I0 σ a w) {o : Oper} {ne : Bool} {t u e : TypeId} {x : Arg} {x' : Operand} (ho : o.op = .binOp (if ne then .neq else .eql) t x' (.const (.slice none 0 0)) u)
    (ht : P.underlying t = some (.slice e)) (hx : chkArg x x' = true) {K : Cont} {G : Goods} (hs : (AOp.nilQ ne x).sem G σ.get σ.b K) : Told P w0 I0 σ a w o K := by
  intro next Q hK
  obtain ⟨tx, hx'⟩ := h.arg hx
  simp only [AOp.sem] at hs
  generalize hX : x.ev σ.get = X at hs hx'
  cases X with
  | sl p es xs =>
    simp only at hs
    have hr := hx'.sl_inv.rd
    generalize hV : a.eval x' = V at hr
    cases hr with
    | sl p es xs base cap u' hcap hmax hclip hnil hes hb hr =>
      have key : K (.bool (if ne then !base.isNone else base.isNone)) none none := by
        cases base with
        | none =>
          have h0 : decide (xs.length = 0) = true := by
            refine decide_eq_true ?_
            cases xs with
            | nil => rfl
            | cons y ys => obtain ⟨_, _, hh, _⟩ := hb (by simp); cases hh
          have := (hs.1 h0).1
          cases ne <;> exact this
        | some b =>
          have : K (.bool ne) none none := by
            cases hd : decide (xs.length = 0) with
            | true => exact (hs.1 hd).2
            | false => exact hs.2 hd
          cases ne <;> exact this
      refine h.val (v := .bool (if ne then !base.isNone else base.isNone)) ?_ (fun t => (Rd.bool _).slots (by simp) t) (by simp [AV.ref]) (hK _ _ _ key)
      have e2 : a.eval (.const (.slice none 0 0)) = .slice none 0 0 := rfl
      simp only [execOp, ho, hV, e2]
      cases ne <;> simp [eqGuard_at_slice, binOp, Op.equal, run_equalIn_nil' w _ t e base xs.length cap ht, Op.maxDepth]
  | _ => exact hs.elim
theorem call_core (h : Rel g w0 I0 σ a w) {o : Oper} {f : FuncId} {y0 : Operand} {ys : Array Operand} {ts : Array TypeId} (hy0 : a.eval y0 = .func (.func f) #[] #[]) (ho : o.op = .call { callee := .value y0, args := ys, argTypes := ts }) (ht : callT P f = true) {K : Cont}
    {vs : List AV} {r : AV} (hgood : Good P f vs r) (hA : ArgsR g.I w vs (ys.toList.map a.eval)) (hk : K r none none) : Told P w0 I0 σ a w o K := by
  intro next Q hK
  have hcall := hgood.out w g.I (ys.toList.map a.eval) h.ex hA
  have hrun : (execOp a.eval o).run P w = .ok (.enter f (ys.toList.map a.eval).toArray) w := by
    unfold callT at ht
    split at ht
    · rename_i fn hfn
      simp only [Bool.and_eq_true, Bool.not_eq_true', beq_eq_false_iff_ne, ne_eq] at ht
      obtain ⟨h1, h2⟩ := ht
      have h3 : fn.body.isNone = false := by cases hb : fn.body <;> simp [hb] at h2 ⊢
      have e1 : ys.map a.eval = (ys.toList.map a.eval).toArray := by apply Array.ext'; simp
      simp only [execOp, ho, resolve, hy0, Deferred.ofValue, Sem.run_bind, Sem.run_pure, Result.andThen_ok, invoke, callFunc, run_program, hfn, h1, h3, beq_iff_eq, if_false, Bool.false_eq_true]
      simp only [Array.empty_append, Array.append_empty]
      rw [← e1]
    · cases ht
  unfold Oper.wp
  rw [hrun]
  refine Calls.mono hcall fun e w' ⟨u, g', he, hb, hbase, hold, hex, hres⟩ => ?_
  subst he
  show next (a.put o.dst u) w'
  have hgr := h.fresh w' (fun b k => w.heap.size ≤ b ∧ g'.I b k) (fun b => match g'.ow b with | .res j => (match o.dst with | some d => .slot d j | none => .none) | _ => .none) hb (fun b k hx => ⟨hx.1, hex b k hx.2⟩)
  have hrel := h.grew hgr
  have hI : ∀ b k, g'.I b k → (g.I b k ∨ (w.heap.size ≤ b ∧ g'.I b k)) := fun b k hi => by
    rcases Nat.lt_or_ge b w.heap.size with hlt | hge
    · exact .inl ((hold b k hlt).1 hi)
    · exact .inr ⟨hge, hi⟩
  have hbs : g.base ≤ w.heap.size := by rw [h.size]; exact h.below.size
  have hloc : ∀ j c v, LocR g' w' (.res j) c v → ∀ d, o.dst = some d → LocR ⟨g.base, fun b k => g.I b k ∨ (w.heap.size ≤ b ∧ g'.I b k), fun b => if b < w.heap.size then g.ow b else match g'.ow b with | .res j => (match o.dst with | some d => .slot d j | none => .none) | _ => .none, g.bx⟩ w' (.slot d j) c v := fun j c v hl d hd => by
    refine ⟨hl.1.mono hI (fun _ _ _ => rfl), fun es xs he => ?_⟩
    rcases hl.2 es xs he with hn | ⟨blk, cap, cur, e, h1, h2, h3, h4, h5, h6⟩
    · exact .inl hn
    · rw [hbase] at h2
      refine .inr ⟨blk, cap, cur, e, h1, Nat.le_trans hbs h2, ?_, h4, h5, fun k => ⟨fun hi => ?_, fun hlt => .inr ⟨h2, (h6 k).2 hlt⟩⟩⟩
      · show (if blk < w.heap.size then _ else _) = _
        rw [if_neg (by omega), h3, hd]
      · rcases hi with hi | hi
        · exact absurd (h.I_lt hi) (by omega)
        · exact (h6 k).1 hi.2
  refine hK _ _ _ hk _ _ _ (hrel.put o.dst r u (fun t ht' => ?_) (fun b hb' => ?_))
  · cases r with
    | tuple rs =>
      obtain ⟨us, h1, h2, h3⟩ := hres
      exact ⟨us, h1, h2, fun j c v hc hv => hloc j c v (h3 j c v hc hv) t ht'⟩
    | top => exact SlotR.top _ _ _ _
    | bool b => exact (hloc 0 _ _ hres t ht').slot
    | int k n => exact (hloc 0 _ _ hres t ht').slot
    | str s => exact (hloc 0 _ _ hres t ht').slot
    | sl p es xs => exact (hloc 0 _ _ hres t ht').slot
    | agg cs => exact (hloc 0 _ _ hres t ht').slot
    | fn f => exact (hloc 0 _ _ hres t ht').slot
    | ptr => cases hres.1
    | eptr => cases hres.1
    | bsl => cases hres.1
    | mp => cases hres.1
  · cases r with
    | ptr => cases hres.1
    | bsl => cases hres.1
    | _ => cases hb'
theorem snd_callO (h : Rel g w0 I0 σ a w) {o : Oper} {f : FuncId} {y0 : Operand} {xs : List Arg} {ys : Array Operand} {ts : Array TypeId} (hy0 : a.eval y0 = .func (.func f) #[] #[]) (ho : o.op = .call { callee := .value y0, args := ys, argTypes := ts }) (ht : callT P f = true) (hx : chkArgs xs ys.toList = true) {K : Cont}
    {G : Goods} (hG : ∀ f xs r, G f xs r → Good P f xs r) (hs : (AOp.call f xs).sem G σ.get σ.b K) : Told P w0 I0 σ a w o K := by
  simp only [AOp.sem] at hs
  split at hs
  · rename_i hpl
    rw [frcL_eq] at hs
    obtain ⟨r, hg, hk⟩ := hs
    obtain ⟨hl, hr⟩ := h.args hx
    refine call_core h hy0 ho ht (hG _ _ _ hg) ⟨by simpa using hl, fun i c u hc hu => ?_⟩ hk
    rw [List.getElem?_map] at hc
    obtain ⟨x, hxi, rfl⟩ := Option.map_eq_some_iff.1 hc
    obtain ⟨t, ht'⟩ := hr i (x.ev σ.get) u (by rw [List.getElem?_map, hxi]; rfl) hu
    exact held_rd (allHeld_inv hpl _ (List.mem_map.2 ⟨x, List.mem_of_getElem? hxi, rfl⟩)) ht'
  · cases hs
theorem rd_nil (I : Cells) (w : World) (es : Nat) : Rd I w (.sl .nil es []) (.slice none 0 0) :=
  .sl .nil es [] none 0 (fun _ _ => .int .i64 0) (Nat.le_refl _) (by simp [maxLen]) (by simp) (fun _ => ⟨rfl, rfl⟩) (by simp) (fun h => absurd rfl h) (fun j k x c hj _ => by simp at hj)
theorem snd_callN (h : Rel g w0 I0 σ a w) {o : Oper} {es : Nat} {f : FuncId} {xs : List Arg} {ys : List Operand} {ts : Array TypeId} (ho : o.op = .call { callee := .value (.func f), args := ⟨.const (.slice none 0 0) :: ys⟩, argTypes := ts }) (ht : callT P f = true) (hx : chkArgs xs ys = true) {K : Cont}
    {G : Goods} (hG : ∀ f xs r, G f xs r → Good P f xs r) (hs : (AOp.callN es f xs).sem G σ.get σ.b K) : Told P w0 I0 σ a w o K := by
  simp only [AOp.sem] at hs
  split at hs
  · rename_i hpl
    rw [frcL_eq] at hs
    obtain ⟨r, hg, hk⟩ := hs
    obtain ⟨hl, hr⟩ := h.args hx
    refine call_core h (y0 := .func f) rfl ho ht (hG _ _ _ hg) ⟨by simpa using hl, fun i c u hc hu => ?_⟩ hk
    cases i with
    | zero =>
      cases hc
      simp only [List.map_cons, List.getElem?_cons_zero, Option.some.injEq] at hu
      subst hu
      exact rd_nil _ _ _
    | succ i =>
      simp only [List.map_cons, List.getElem?_cons_succ] at hc hu
      rw [List.getElem?_map] at hc
      obtain ⟨x, hxi, rfl⟩ := Option.map_eq_some_iff.1 hc
      obtain ⟨t, ht'⟩ := hr i (x.ev σ.get) u (by rw [List.getElem?_map, hxi]; rfl) hu
      exact held_rd (allHeld_inv hpl _ (List.mem_map.2 ⟨x, List.mem_of_getElem? hxi, rfl⟩)) ht'
  · cases hs
theorem snd_call (h : Rel g w0 I0 σ a w) {o : Oper} {f : FuncId} {xs : List Arg} {ys : Array Operand} {ts : Array TypeId} (ho : o.op = .call { callee := .value (.func f), args := ys, argTypes := ts }) (ht : callT P f = true) (hx : chkArgs xs ys.toList = true) {K : Cont}
    {G : Goods} (hG : ∀ f xs r, G f xs r → Good P f xs r) (hs : (AOp.call f xs).sem G σ.get σ.b K) : Told P w0 I0 σ a w o K :=
  snd_callO h (y0 := .func f) rfl ho ht hx hG hs
theorem snd_callv (h : Rel g w0 I0 σ a w) {o : Oper} {n f : Nat} {xs : List Arg} {ys : Array Operand} {ts : Array TypeId} (ho : o.op = .call { callee := .value (.tmp n), args := ys, argTypes := ts }) (ht : callT P f = true) (hx : chkArgs xs ys.toList = true) {K : Cont}
    {G : Goods} (hG : ∀ f xs r, G f xs r → Good P f xs r) (hs : (AOp.callv n f xs).sem G σ.get σ.b K) : Told P w0 I0 σ a w o K := by
  simp only [AOp.sem] at hs
  split at hs
  · rename_i f' hf
    obtain ⟨rfl, hs⟩ := hs
    have hv := h.slots n
    rw [hf] at hv
    exact snd_callO h (y0 := .tmp n) hv.fn_inv ho ht hx hG hs
  · cases hs
/-! rows that are written: boxes of many -/
theorem Rd.flat {c : AV} (hf : c.flat = true) {I : Cells} {w : World} {u : Value} (h : Rd I w c u) (I' : Cells) (w' : World) : Rd I' w' c u := by
  cases h with
  | int k n => exact .int k n
  | bool b => exact .bool b
  | str s h => exact .str s h
  | _ => cases hf
theorem flat_loc {c : AV} (hf : c.flat = true) {I : Cells} {w : World} {u : Value} (h : Rd I w c u) (g : Gh) (w' : World) (L : Loc) : LocR g w' L c u :=
  LocR.of_rd (h.flat hf g.I w') (fun es xs he => by subst he; cases hf)

theorem Rel.newRows (h : Rel g w0 I0 σ a w) {w' : World} (hbelow : Below w.heap.size w w') {blk : Nat} (hblk : w.heap.size ≤ blk) {cur : Array Value} {e : TypeId} (hh : w'.heap[blk]? = some (.cells cur e (0, 0)))
    {b : Nat} (hb : σ.b[b]? = some none) (es : Nat) (xs : List (List AV)) (hsz : xs.length * es ≤ cur.size) (hes : ∀ x ∈ xs, x.length = es)
    (hc : ∀ (j k : Nat) x c, xs[j]? = some x → x[k]? = some c → c.flat = true ∧ ∃ u, cur[j * es + k]? = some u ∧ u.oneCell' = true ∧ ∃ I w, Rd I w c u) :
    ∃ g', Rel g' w0 I0 (σ.setB (some (b, some ⟨false, es, xs⟩))) a w' ∧ g'.bx b = blk ∧ OwB g' b := by
  have hlt : b < σ.b.length := (List.getElem?_eq_some_iff.1 hb).1
  have hbs : g.base ≤ w.heap.size := by rw [h.size]; exact h.below.size
  let g' : Gh := ⟨g.base, g.I, fun c => if c = blk then .box b else g.ow c, fun c => if c = b then blk else g.bx c⟩
  have hold : ∀ c, c < w.heap.size → w'.heap[c]? = w.heap[c]? := fun c hc => hbelow.block c hc
  have hcell : ∀ c o, g.I c o → w'.cell? ⟨c, o, none⟩ = w.cell? ⟨c, o, none⟩ := fun c o hi => cell?_of_heap (hold c (h.I_lt hi)) o
  have hkeep : ∀ L, L ≠ .box b → Keep g w g' w' L := fun L hL => by
    refine ⟨rfl, fun c hc => ?_, fun _ _ h => h, hcell, fun c hlt hc => ⟨?_, hold c hlt, fun _ h => h⟩, SzS.old hold⟩
    · show (if c = b then blk else g.bx c) = g.bx c
      rw [if_neg (by intro he; subst he; exact hL hc)]
    · show (if c = blk then .box b else g.ow c) = L
      rw [if_neg (by omega)]; exact hc
  have e1 : g'.bx b = blk := by show (if b = b then _ else _) = _; rw [if_pos rfl]
  refine ⟨g', h.boxed g' _ b ⟨false, es, xs⟩ hlt (hbelow.mono hbs) rfl rfl (fun c o hi => ?_) (fun c hc => by show (if c = b then _ else _) = _; rw [if_neg hc]) (fun L _ hL _ => hkeep L hL) ?_ (.inl hb), e1, ⟨by rw [e1]; show g.base ≤ blk; omega, by rw [e1]; show (if blk = blk then _ else _) = _; rw [if_pos rfl], fun o hi => absurd (h.I_lt (by rw [e1] at hi; exact hi)) (by omega)⟩⟩
  · obtain ⟨u, hu⟩ := h.ex c o hi
    exact ⟨u, (hcell c o hi).trans hu⟩
  · refine .inr ⟨cur, e, by rw [e1]; exact hh, by rw [e1]; show g.base ≤ blk; omega, ?_, hsz, fun o hi => ?_, hes, fun j k x c hj hk => ?_⟩
    · rw [e1]; show (if blk = blk then _ else _) = _; rw [if_pos rfl]
    · rw [e1] at hi
      exact absurd (h.I_lt hi) (by omega)
    · obtain ⟨hf, u, hu, h1, I, w1, hr⟩ := hc j k x c hj hk
      exact ⟨u, hu, h1, flat_loc hf hr _ _ _⟩
theorem Rel.noRows (h : Rel g w0 I0 σ a w) {w' : World} (hbelow : Below w.heap.size w w') {b : Nat} (hb : σ.b[b]? = some none) (es : Nat) :
    ∃ g', Rel g' w0 I0 (σ.setB (some (b, some ⟨false, es, []⟩))) a w' := by
  have hlt : b < σ.b.length := (List.getElem?_eq_some_iff.1 hb).1
  have hbs : g.base ≤ w.heap.size := by rw [h.size]; exact h.below.size
  have hold : ∀ c, c < w.heap.size → w'.heap[c]? = w.heap[c]? := fun c hc => hbelow.block c hc
  have hcell : ∀ c o, g.I c o → w'.cell? ⟨c, o, none⟩ = w.cell? ⟨c, o, none⟩ := fun c o hi => cell?_of_heap (hold c (h.I_lt hi)) o
  refine ⟨g, h.boxed g w' b ⟨false, es, []⟩ hlt (hbelow.mono hbs) rfl rfl (fun c o hi => ?_) (fun _ _ => rfl) (fun L _ _ _ => ⟨rfl, fun _ _ => rfl, fun _ _ h => h, hcell, fun c hlt hc => ⟨hc, hold c hlt, fun _ h => h⟩, SzS.old hold⟩) (.inl rfl) (.inl hb)⟩
  obtain ⟨u, hu⟩ := h.ex c o hi
  exact ⟨u, (hcell c o hi).trans hu⟩

theorem box_ref {b es : Nat} {xs : List (List AV)} {n : Nat} (hb : σ.b[b]? = some none) : ∀ c, (AV.bsl b es 0 n).ref = some c → ∃ y, (σ.setB (some (b, some ⟨false, es, xs⟩))).b[c]? = some (some y) := fun c hc => by
  cases hc
  refine ⟨⟨false, es, xs⟩, ?_⟩
  show (σ.b.set b _)[b]? = _
  rw [List.getElem?_set, if_pos rfl, if_pos (List.getElem?_eq_some_iff.1 hb).1]

theorem snd_callB (h : Rel g w0 I0 σ a w) {o : Oper} {b es : Nat} {f : FuncId} {xs : List Arg} {ys : Array Operand} {ts : Array TypeId} (ho : o.op = .call { callee := .value (.func f), args := ys, argTypes := ts }) (ht : callT P f = true) (hx : chkArgs xs ys.toList = true) {K : Cont}
    {G : Goods} (hG : ∀ f xs r, G f xs r → Good P f xs r) (hs : (AOp.callB b es f xs).sem G σ.get σ.b K) : Told P w0 I0 σ a w o K := by
  intro next Q hK
  simp only [AOp.sem] at hs
  split at hs
  · rename_i hb
    split at hs
    · rename_i hpl
      rw [frcL_eq] at hs
      obtain ⟨rows, hg, hfl, hk⟩ := hs
      obtain ⟨hl, hr⟩ := h.args hx
      have hcall := (hG _ _ _ hg).out w g.I (ys.toList.map a.eval) h.ex ⟨by simpa using hl, fun i c u hc hu => by
        rw [List.getElem?_map] at hc
        obtain ⟨x, hxi, rfl⟩ := Option.map_eq_some_iff.1 hc
        obtain ⟨t, ht'⟩ := hr i (x.ev σ.get) u (by rw [List.getElem?_map, hxi]; rfl) hu
        exact held_rd (allHeld_inv hpl _ (List.mem_map.2 ⟨x, List.mem_of_getElem? hxi, rfl⟩)) ht'⟩
      have hrun : (execOp a.eval o).run P w = .ok (.enter f (ys.toList.map a.eval).toArray) w := by
        unfold callT at ht
        split at ht
        · rename_i fn hfn
          simp only [Bool.and_eq_true, Bool.not_eq_true', beq_eq_false_iff_ne, ne_eq] at ht
          obtain ⟨h1, h2⟩ := ht
          have h3 : fn.body.isNone = false := by cases hb : fn.body <;> simp [hb] at h2 ⊢
          have e1 : ys.map a.eval = (ys.toList.map a.eval).toArray := by apply Array.ext'; simp
          simp only [execOp, ho, resolve, Act.eval, Deferred.ofValue, Sem.run_bind, Sem.run_pure, Result.andThen_ok, invoke, callFunc, run_program, hfn, h1, h3, beq_iff_eq, if_false, Bool.false_eq_true]
          simp only [Array.empty_append, Array.append_empty]
          rw [← e1]
        · cases ht
      unfold Oper.wp
      rw [hrun]
      refine Calls.mono hcall fun e w' ⟨u, g', he, hbl, hbase, hold, hex, hres⟩ => ?_
      subst he
      show next (a.put o.dst u) w'
      have hres' : LocR g' w' (.res 0) (.sl .own es rows) u := hres
      have hrd := hres'.1
      rcases hres'.2 es rows rfl with hn | ⟨blk, cap, cur, e, h1, h2, h3, h4, h5, h6⟩
      · have hrows : rows = [] := by
          rw [hn] at hrd
          generalize hv : Value.slice none 0 0 = vv at hrd
          cases hrd with
          | sl _ _ _ base cap u' h1 h2 h3 hnil h5 h6 h7 =>
            injection hv with e1 e2 e3
            exact List.eq_nil_of_length_eq_zero e2.symm
        subst hrows
        obtain ⟨g1, hrel⟩ := h.noRows hbl hb es
        exact hK _ _ _ hk _ _ _ (hrel.put o.dst (.bsl b es 0 0) u (fun t _ => .inr ⟨rfl, _, hn⟩) (box_ref hb))
      · rw [hbase] at h2
        have hcapm : rows.length ≤ cap ∧ cap ≤ maxLen := by
          rw [h1] at hrd
          cases hrd with
          | sl _ _ _ base cap' u' a1 a2 => exact ⟨a1, a2⟩
        obtain ⟨g1, hrel, hbx, hob⟩ := h.newRows hbl h2 h4 hb es rows (by rw [h5]; exact Nat.mul_le_mul_right _ hcapm.1) (by cases hrd with | sl _ _ _ _ _ _ _ _ _ _ h5 _ _ => exact h5) (fun j k x c hj hkk => by
          refine ⟨hfl x (List.mem_of_getElem? hj) c (List.mem_of_getElem? hkk), ?_⟩
          rw [h1] at hrd
          cases hrd with
          | sl _ _ _ base cap' u' a1 a2 a3 a4 a5 hbb hrr =>
            obtain ⟨gb, ob, e1, hcc⟩ := hbb (by intro he; rw [he] at hj; simp at hj)
            cases e1
            obtain ⟨_, h8, h9⟩ := hcc _ _ _ _ hj hkk
            rw [Nat.zero_add, cell_of_row w' _ _ _ e _ h4] at h8
            exact ⟨_, h8, h9, _, _, hrr _ _ _ _ hj hkk⟩)
        exact hK _ _ _ hk _ _ _ (hrel.put o.dst (.bsl b es 0 rows.length) u (fun t _ => .inl ⟨cap, by rw [hbx, Nat.zero_mul]; exact h1, hcapm.1, hcapm.2, ⟨_, _, by rw [hbx]; exact h4, by rw [h5, Nat.zero_add]; exact Nat.le_refl _⟩, hob⟩) (box_ref hb))
    · cases hs
  · cases hs

theorem snd_appB (h : Rel g w0 I0 σ a w) {o : Oper} {t u : TypeId} {b es bytes : Nat} {y : Arg} {x' y' : Operand} (ho : o.op = .call { callee := .builtin .append, args := #[x', y'], argTypes := #[t, u] }) (ht : appT P t es bytes = true) (hu : srcT P u = true) {x : Option Nat} (hx : (x = none ∧ x' = .const (.slice none 0 0)) ∨ ∃ n, x = some n ∧ x' = .tmp n) (hy : chkArg y y' = true) {K : Cont}
    {G : Goods} (hs : (AOp.appB b es bytes x y).sem G σ.get σ.b K) : Told P w0 I0 σ a w o K := by
  intro next Q hK
  obtain ⟨ty, hy'⟩ := h.arg hy
  simp only [AOp.sem] at hs
  split at hs
  · rename_i hb
    have hbase0 : ∃ bs0, a.eval x' = .slice bs0 0 0 := by
      rcases hx with ⟨rfl, rfl⟩ | ⟨n, rfl, rfl⟩
      · exact ⟨none, rfl⟩
      · simp only at hs
        split at hs
        · exact hs.elim
        · rename_i hq
          split at hq
          · rename_i es0 hg
            have hn := h.slots n
            rw [hg] at hn
            have hrd := hn.sl_inv.rd
            show ∃ bs0, a.tmps.getD n undef = _
            generalize a.tmps.getD n undef = v at hrd
            cases hrd with
            | sl _ _ _ base cap u' h1 h2 h3 h4 h5 h6 h7 =>
              have := h3 rfl
              subst this
              exact ⟨base, rfl⟩
          · cases hq
    obtain ⟨bs0, hx0⟩ := hbase0
    split at hs
    · exact hs.elim
    split at hs
    · rename_i q es' ys hY
      split at hs
      · rename_i hee
        subst hee
        obtain ⟨hmax, hby, hfl, hk⟩ := hs
        simp only [appT, Bool.and_eq_true] at ht
        obtain ⟨⟨hsl, hz⟩, hbt⟩ := ht
        have hul := sliceT_inv hsl
        obtain ⟨it, z, hit, hzz, hsz, hzs⟩ := zsT_inv hz
        rw [hit] at hbt
        have hbt := Nat.eq_of_beq_eq_true hbt
        have hexec : ∀ v w', (Builtin.append_ #[t, u] o.type #[.slice bs0 0 0, a.eval y']).run P w = .ok v w' → (execOp a.eval o).run P w = .ok (.value v) w' := fun v w' hr => by
          have e1 : a.eval x' = .slice bs0 0 0 := hx0
          simp only [execOp, ho, resolve, List.map_toArray, List.map_cons, List.map_nil, pure_bind, invoke, builtin, Sem.run_bind, e1, hr]
          rfl
        rw [hY] at hy'
        have hrd := hy'.sl_inv.rd
        generalize hv : a.eval y' = v at hrd hexec
        have hrd' := hrd
        cases hrd with
        | sl _ _ _ base cap u' h1 h2 h3 h4 h5 h6 h7 =>
          obtain ⟨news, hsrc, hn, hyl, hnews⟩ := hrd'.first (P := P) h.ex
          by_cases hys : ys = []
          · subst hys
            have hr : (Builtin.append_ #[t, u] o.type #[.slice bs0 0 0, .slice base 0 cap]).run P w = .ok (.slice bs0 0 0) w := by
              have hl := hsrc.len w
              have hf := hsrc.first w rfl
              have hu2 := srcT_inv hu
              have hnw : news = [] := by have := hsrc.size; simp at this; exact this
              subst hnw
              cases bs0 with
              | none => exact run_append_stay' (ty := o.type) hul hu hit hsz hsrc
              | some ad =>
                rcases hu2 with ⟨e2, hd⟩ | hd <;> simp at hl hf <;> simp [Builtin.append_, run_underlying hul, run_underlying hd, sizeOf, typeInfo, hit, hsz, hl, hf, storeCells]
            obtain ⟨g1, hrel⟩ := h.noRows (Below.refl _ _) hb es
            exact wp_val (hexec _ _ hr) (hK _ _ _ hk _ _ _ (hrel.put o.dst (.bsl b es 0 0) _ (fun t _ => .inr ⟨rfl, _, rfl⟩) (box_ref hb)))
          · have hpos : 0 < ys.length := List.length_pos_iff.2 hys
            have hr := run_append_grow' (ty := o.type) (base := bs0) (sLen := 0) (cap := 0) (olds := []) hul hu hit hzz hsz hsrc (fun w' _ => by
              cases bs0 with
              | none => simp [Builtin.firstCells]
              | some ad => exact run_firstCells_some w' es 0 ad _ _ [] (by simp) (by simp)) (by omega) (by omega) (growslice_fits (by omega) (by rw [hbt, Nat.zero_add]; exact hby))
            rw [Nat.zero_add] at hr
            have hcg := grownCap_ge w ys.length 0 (P.elem t)
            have hcm := grownCap_le_maxLen w ys.length 0 (P.elem t) hmax
            obtain ⟨g1, hrel, hbx, hob⟩ := h.newRows (w' := w.drew.alloc (.cells ((([] : List Value).toArray) ++ news.toArray ++ Builtin.zeroCells z.cells (grownCap w ys.length 0 (P.elem t) - ys.length)) (P.elem t)))
              ((Below.refl _ _).drew.alloc (Nat.le_refl _) _) (Nat.le_refl _) (heap_alloc_new w.drew _) hb es ys (by simp [hsrc.size]) hyl (fun j k x c hj hkk => by
                refine ⟨hfl x (List.mem_of_getElem? hj) c (List.mem_of_getElem? hkk), ?_⟩
                obtain ⟨v, hv1, hv2⟩ := hnews _ _ _ _ hj hkk
                have hlt2 := (List.getElem?_eq_some_iff.1 hv1).1
                refine ⟨v, ?_, hsrc.one v (List.mem_of_getElem? hv1), _, _, hv2⟩
                rw [Array.getElem?_append_left (by simp; omega)]
                simpa using hv1)
            exact wp_val (hexec _ _ hr) (hK _ _ _ hk _ _ _ (hrel.put o.dst (.bsl b es 0 ys.length) _ (fun t _ => .inl ⟨_, by rw [hbx, Nat.zero_mul], hcg, hcm, ⟨_, _, by rw [hbx]; exact heap_alloc_new w.drew _, by simp [size_zeroCells, hsrc.size]; rw [hzs, ← Nat.add_mul]; exact Nat.mul_le_mul_right _ (by omega)⟩, hob⟩) (box_ref hb)))
      · cases hs
    · cases hs
  · cases hs

theorem snd_bsc (h : Rel g w0 I0 σ a w) {o : Oper} {t : TypeId} {es : Nat} {qs : Array (Nat × Operand)} (ho : o.op = .buildSlice t 0 qs) (ht : bsT P t es 0 [] qs.toList = true) {K : Cont}
    {G : Goods} (hs : (AOp.bsc es).sem G σ.get σ.b K) : Told P w0 I0 σ a w o K := by
  intro next Q hK
  simp only [bsT, Bool.and_eq_true] at ht
  obtain ⟨⟨⟨⟨⟨hsl, hz⟩, hn⟩, hle⟩, hle2⟩, hok⟩ := ht
  have hu := sliceT_inv hsl
  obtain ⟨it, z, hit, hzz, hsz, hzs⟩ := zsT_inv hz
  obtain ⟨hidx, hargs⟩ := bsOK_inv hok
  obtain ⟨hlen, _⟩ := h.args hargs
  have hq : qs = #[] := by
    have : qs.toList.length = 0 := by simpa using hlen.symm
    exact Array.toList_eq_nil_iff.1 (List.eq_nil_of_length_eq_zero this)
  subst hq
  have hrun : (execOp a.eval o).run P w = .ok (.value (.slice (some ⟨w.heap.size, 0, none⟩) 0 0)) (w.alloc (.cells #[] (P.elem t))) := by
    simp [execOp, ho, Instr.buildSlice, run_underlying hu, sizeOf, typeInfo, hit, newRow, Instr.fill, Array.range_zero']
  have hg := h.fresh (w.alloc (.cells #[] (P.elem t))) (fun _ _ => False) (fun _ => .none) ((Below.refl _ _).alloc (Nat.le_refl _) _) (fun _ _ hf => hf.elim)
  have hrel := h.grew hg
  refine wp_val hrun (hK _ _ _ hs _ _ _ (hrel.put o.dst (.sl .clip es []) _ (fun t _ => ?_) (by simp [AV.ref])))
  exact (Rd.sl .clip es [] _ 0 (fun _ _ => undef) (by simp) (by simp) (by simp) (by simp) (by simp) (by simp) (by simp)).slots (by simp) t
theorem snd_bsB (h : Rel g w0 I0 σ a w) {o : Oper} {t : TypeId} {b es n : Nat} {xs : List Arg} {qs : Array (Nat × Operand)} (ho : o.op = .buildSlice t n qs) (ht : bsT P t es n xs qs.toList = true) {K : Cont}
    {G : Goods} (hs : (AOp.bsB b es xs).sem G σ.get σ.b K) : Told P w0 I0 σ a w o K := by
  intro next Q hK
  simp only [AOp.sem] at hs
  split at hs
  · rename_i hb
    split at hs
    · rename_i hpl
      rw [cellsOf_eq] at hs
      split at hs
      · rename_i hal
        obtain ⟨hfl, hs⟩ := hs
        obtain ⟨cs', hrun, hfs, hcl, hmx, hall, hcc⟩ := bs_core h ho ht hpl hal
        obtain ⟨g', hr1, hbx, hob⟩ := h.newRows (w' := w.alloc (.cells cs' (P.elem t))) ((Below.refl _ _).alloc (Nat.le_refl _) _) (Nat.le_refl _) (cur := cs') (e := P.elem t) (by exact heap_alloc_new w _) hb es ((xs.map fun x => x.ev σ.get).map AV.cells) (by rw [hcl, hfs]; exact Nat.le_refl _) hall (fun j k x c hj hk => by
          obtain ⟨u, h1, h2, h3⟩ := hcc j k x c hj hk
          exact ⟨hfl x (List.mem_of_getElem? hj) c (List.mem_of_getElem? hk), u, h1, h2, _, _, h3⟩)
        rw [hcl] at hs
        exact wp_val hrun (hK _ _ _ hs g' _ _ (hr1.put o.dst (.bsl b es 0 n) _ (fun t _ => .inl ⟨n, by rw [hbx, Nat.zero_mul], Nat.le_refl _, hmx, ⟨_, _, by rw [hbx]; exact heap_alloc_new w _, by rw [hfs, Nat.zero_add]; exact Nat.le_refl _⟩, hob⟩) (box_ref hb)))
      · cases hs
    · cases hs
  · cases hs
theorem snd_nilB (h : Rel g w0 I0 σ a w) {o : Oper} {b es : Nat} (ho : o.op = .move (.const (.slice none 0 0)) ∨ o.op = .assign (.const (.slice none 0 0))) {K : Cont}
    {G : Goods} (hs : (AOp.nilB b es).sem G σ.get σ.b K) : Told P w0 I0 σ a w o K := by
  intro next Q hK
  simp only [AOp.sem] at hs
  split at hs
  · rename_i hb
    obtain ⟨g1, hrel⟩ := h.noRows (Below.refl _ _) hb es
    have hrun : (execOp a.eval o).run P w = .ok (.value (.slice none 0 0)) w := by rcases ho with ho | ho <;> simp [execOp, ho, Act.eval]
    exact wp_val hrun (hK _ _ _ hs _ _ _ (hrel.put o.dst (.bsl b es 0 0) _ (fun t _ => .inr ⟨rfl, _, rfl⟩) (box_ref hb)))
  · cases hs
/-- an array, told by its rows -/
theorem snd_allocR (h : Rel g w0 I0 σ a w) {o : Oper} {t : TypeId} {b n es : Nat} {zero : List AV} (ho : o.op = .alloc t) (ht : zeroT P t (List.replicate n zero).flatten = true) (hes : zero.length = es) (hf : zero.all AV.flat = true) {K : Cont}
    {G : Goods} (hs : (AOp.allocR b n es zero).sem G σ.get σ.b K) : Told P w0 I0 σ a w o K := by
  intro next Q hK
  simp only [AOp.sem] at hs
  split at hs
  · rename_i hb
    obtain ⟨i, z, hi, hz, hco, hsz⟩ := zeroT_inv ht
    have hcc := constsOK_rel (g := g) (w := w) hco
    have hlen : z.cells.size = n * es := by
      have := hcc.1
      simp at this
      rw [← this, hes]
    have hnew := h.newRows (w' := w.alloc (.cells z.cells t)) ((Below.refl _ _).alloc (Nat.le_refl _) _) (Nat.le_refl _) (cur := z.cells) (e := t) (by exact heap_alloc_new w _) hb es (List.replicate n zero) (by simp [hlen]) (fun x hx => by rw [List.eq_of_mem_replicate hx, hes]) (fun j k x c hj hk => by
      have hjn : j < n := by have := (List.getElem?_eq_some_iff.1 hj).1; simpa using this
      have hx : x = zero := List.eq_of_mem_replicate (List.mem_of_getElem? hj)
      subst hx
      have hke : k < es := by have := (List.getElem?_eq_some_iff.1 hk).1; omega
      have hle : (j + 1) * es ≤ n * es := Nat.mul_le_mul_right _ hjn
      rw [Nat.add_mul] at hle
      have hlt : j * es + k < z.cells.size := by omega
      have hfl : (List.replicate n x).flatten[j * es + k]? = some c := by
        have key : ∀ (n j : Nat), j < n → (List.replicate n x).flatten[j * es + k]? = some c := by
          intro n
          induction n with
          | zero => intro j h; omega
          | succ n ih =>
            intro j hj
            rw [List.replicate_succ, List.flatten_cons]
            cases j with
            | zero => rw [Nat.zero_mul, Nat.zero_add, List.getElem?_append_left (by omega)]; exact hk
            | succ j => rw [List.getElem?_append_right (by rw [Nat.add_mul]; omega), show (j + 1) * es + k - x.length = j * es + k by rw [Nat.add_mul, hes]; omega]; exact ih j (by omega)
        exact key n j hjn
      have hu : z.cells.toList[j * es + k]? = some z.cells[j * es + k] := by simp [hlt]
      refine ⟨List.all_eq_true.1 hf c (List.mem_of_getElem? hk), z.cells[j * es + k], by simp [hlt], hcc.2.1 _ (by simp), g.I, w, (hcc.2.2 _ c _ hfl hu (.slot 0 0)).rd⟩)
    obtain ⟨g', hrel, hbx, _⟩ := hnew
    have hrun : (execOp a.eval o).run P w = .ok (.value (.pointer (some ⟨w.heap.size, 0, none⟩))) (w.alloc (.cells z.cells t)) := by
      simp [execOp, ho, Instr.alloc, zeroValue, typeInfo, hi, hz, newVar, newRow]
    refine wp_val hrun (hK _ _ _ hs _ _ _ (hrel.put o.dst (.ptr b es 0 0) _ (fun t _ => ?_) (fun c hc => ?_)))
    · show _ = _; rw [hbx]; simp
    · cases hc
      refine ⟨⟨false, es, List.replicate n zero⟩, ?_⟩
      show (σ.b.set b _)[b]? = _
      rw [List.getElem?_set, if_pos rfl, if_pos (List.getElem?_eq_some_iff.1 hb).1]
  · cases hs
theorem iaR_ia {G : Goods} {es n : Nat} {x i : Arg} {g : Nat → AV} {bs : List (Option Box)} {K : Cont} (h : (AOp.iaR es n x i).sem G g bs K) :
    ∃ b i0 k, x.ev g = .ptr b es i0 0 ∧ asI (i.ev g) (fun j => j = k ∧ 0 ≤ k ∧ k < n) ∧ K (.ptr b es (i0 + k.toNat) 0) none none := by
  simp only [AOp.sem] at h
  obtain ⟨kk, k, hi, h⟩ := asI_inv h
  split at h
  · rename_i b es' i0 off hx
    split at h
    · rename_i he
      subst he
      split at h
      · exact ⟨b, i0, k, hx, by rw [hi]; exact ⟨rfl, h.1, h.2.1⟩, h.2.2⟩
      · exact h.elim
    · exact h.elim
  · exact h.elim
theorem snd_iaR (h : Rel g w0 I0 σ a w) {o : Oper} {t : TypeId} {es n : Nat} {x i : Arg} {x' i' : Operand} (ho : o.op = .indexAddr t x' i') (ht : elemT P t (some n) es = true) (hx : chkArg x x' = true) (hi : chkArg i i' = true) {K : Cont}
    {G : Goods} (hs : (AOp.iaR es n x i).sem G σ.get σ.b K) : Told P w0 I0 σ a w o K := by
  obtain ⟨tx, hx'⟩ := h.arg hx
  obtain ⟨ti, hi'⟩ := h.arg hi
  have hrf := h.argRef hx
  obtain ⟨b, i0, k, hX, hk0, hs⟩ := iaR_ia hs
  obtain ⟨kk, j, hk, rfl, h0, hlt⟩ := hi'.asI hk0
  rw [hX] at hx' hrf
  have hv : a.eval x' = .pointer (some ⟨g.bx b, i0 * es + 0, none⟩) := hx'
  have hrun : (execOp a.eval o).run P w = .ok (.value (.pointer (some ⟨g.bx b, i0 * es + 0 + j.toNat * es, none⟩))) w := by
    unfold elemT at ht
    split at ht
    · simp at ht
    · rename_i m' e hu
      simp only [Bool.and_eq_true] at ht
      have := Nat.eq_of_beq_eq_true ht.2
      subst this
      simp [execOp, ho, hv, hk, Instr.indexAt, asIntOf, run_underlying hu, h0, hlt, sizeT_run ht.1, Addr.add_lit, Instr.sureAddr]
    · cases ht
  exact h.told (x := .ptr b es (i0 + j.toNat) 0) hrun (fun t => by show _ = _; rw [Nat.add_zero, Nat.add_zero, Nat.add_mul]) hrf hs
theorem iaE_ia {G : Goods} {es : Nat} {x i : Arg} {f : Nat → AV} {bs : List (Option Box)} {K : Cont} (h : (AOp.iaE es x i).sem G f bs K) : (AOp.ia es none x i).sem G f bs K := by
  simp only [AOp.sem] at h ⊢
  obtain ⟨kk, k, hk, h⟩ := asI_inv h
  rw [hk]
  show _
  simp only [asI]
  split at h
  · rename_i hp
    try simp only [hp]
    split at h
    · rename_i hes
      rw [if_pos hes]
      exact ⟨h.1, trivial, h.2⟩
    · exact h.elim
  · exact h.elim
theorem ldr_ld {G : Goods} {n : Option Nat} {p : Arg} {f : Nat → AV} {bs : List (Option Box)} {K : Cont} (h : (AOp.ldr n p).sem G f bs K) : (AOp.ld n p).sem G f bs K := by
  simp only [AOp.sem] at h ⊢
  split at h
  · rename_i hp
    try simp only [hp]
    split at h
    · rename_i hb
      try simp only [hb]
      split at h
      · rename_i hes
        obtain ⟨x, hx, h⟩ := h
        rw [if_pos hes]
        cases n with
        | none => simp only [cellAt, hx]; exact h
        | some m => simp only [hx]; exact h
      · exact h.elim
    · exact h.elim
  · exact h.elim
theorem ldo_ld {G : Goods} {p : Arg} {f : Nat → AV} {bs : List (Option Box)} {K : Cont} (h : (AOp.ldo p).sem G f bs K) : (AOp.ld none p).sem G f bs K := by
  simp only [AOp.sem] at h ⊢
  split at h
  · rename_i hp
    try simp only [hp]
    split at h
    · rename_i hb
      try simp only [hb]
      split at h
      · rename_i hes
        split at h
        · exact h.elim
        · rename_i x hx
          obtain ⟨c, hc, hk⟩ := h
          rw [if_pos hes]
          simp only [cellAt, hx, hc]
          exact hk
      · exact h.elim
    · exact h.elim
  · rename_i hp
    try simp only [hp]
    obtain ⟨c, hc, hk⟩ := h
    simp only [hc]
    exact hk
  · exact h.elim
theorem sto_st {G : Goods} {n : Nat} {p x : Arg} {f : Nat → AV} {bs : List (Option Box)} {K : Cont} (h : (AOp.sto n p x).sem G f bs K) : (AOp.st n p x).sem G f bs K := by
  simp only [AOp.sem] at h ⊢
  split at h
  · rename_i hp
    try simp only [hp]
    split at h
    · rename_i hb
      try simp only [hb]
      split at h
      · rename_i hes
        obtain ⟨y, hy, h⟩ := h
        rw [if_pos hes]
        simp only [hy]
        cases hX : x.ev f <;> simp only [hX] at h ⊢ <;> exact h
      · exact h.elim
    · exact h.elim
  · exact h.elim
end
end Go.Proofs.Ytfkihagcgjombaa

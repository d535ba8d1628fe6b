/- append's two forms, and calls, are told rightly. No program's fact stands here. -/
import Derived.Test.YtildhamfnfifjaaAwD
namespace Go.Proofs.Ytildhamfnfifjaa
open Go.RowKit

section
variable {P : Program} {g : Gh} {w0 : World} {I0 : Cells} {σ : St} {a : Act} {w : World}

theorem snd_app (h : Rel g w0 I0 σ a w) {o : Oper} {t u : TypeId} {es bytes : Nat} {x y : Arg} {x' y' : Operand} (ho : o.op = .call { callee := .builtin .append, args := #[x', y'], argTypes := #[t, u] }) (ht : appT P t es bytes = true) (hu : srcT P u = true) (hx : chkArg x x' = true) (hy : chkArg y y' = true) (hd : ∀ n, x = .t n → o.dst ≠ some n) {K : Cont}
    {G : Goods} (hs : (AOp.app es bytes x y).sem G σ.get σ.b K) : Told P w0 I0 σ a w o K := by
  intro next Q hK
  obtain ⟨ty, hy'⟩ := h.arg hy
  simp only [AOp.sem] at hs
  split at hs
  · rename_i p es' xs hX
    split at hs
    · rename_i hee
      subst hee
      split at hs
      · rename_i q es'' ys hY
        split at hs
        · rename_i hee
          subst hee
          obtain ⟨hp, hmax, hby, hk⟩ := hs
          rw [hY] at hy'
          have hrd := hy'.sl_inv.rd
          generalize hv : a.eval y' = v at hrd
          have hrd' := hrd
          cases hrd with
          | sl _ _ _ base cap u' h1 h2 h3 h4 h5 h6 h7 =>
            obtain ⟨news, hsrc, hn, hyl, hnews⟩ := hrd'.first (P := P) h.ex
            have hk' : K (.sl .own es (xs ++ ys)) (x.after es xs) none := by cases x <;> exact hk
            exact app_core h ho ht hu hx hd hX (by rw [hv]; exact hsrc) hn hyl hnews hp hmax hby (hK _ _ _ hk')
        · cases hs
      · cases hs
    · cases hs
  · cases hs

theorem snd_appS (h : Rel g w0 I0 σ a w) {o : Oper} {t u : TypeId} {bytes : Nat} {x y : Arg} {x' y' : Operand} (ho : o.op = .call { callee := .builtin .append, args := #[x', y'], argTypes := #[t, u] }) (ht : appT P t 1 bytes = true) (hu : srcT P u = true) (hx : chkArg x x' = true) (hy : chkArg y y' = true) (hd : ∀ n, x = .t n → o.dst ≠ some n) {K : Cont}
    {G : Goods} (hs : (AOp.appS bytes x y).sem G σ.get σ.b K) : Told P w0 I0 σ a w o K := by
  intro next Q hK
  obtain ⟨ty, hy'⟩ := h.arg hy
  simp only [AOp.sem] at hs
  split at hs
  · rename_i p es xs hX
    split at hs
    · rename_i hee
      subst hee
      split at hs
      · rename_i s hY
        obtain ⟨hp, hmax, hby, hk⟩ := hs
        rw [hY] at hy'
        obtain ⟨hv, hsl⟩ := hy'.str_inv
        have hbl : (bytesAV s).length = s.length := by simp [bytesAV]
        have hcl : (bcells s).length = s.length := bcells_length s
        have hsrc : Src P w 1 (a.eval y') s.length (bcells s) := by
          rw [hv]
          refine ⟨fun w' => by simp [Builtin.lenOf, str_size], fun w' _ => ?_, by rw [hcl, Nat.mul_one], fun v hv' => ?_⟩
          · simp only [Builtin.firstCells, Sem.run_pure]
            rw [str_extract]
            simp [bcells, str]
          · obtain ⟨b, _, rfl⟩ := List.mem_map.1 hv'
            rfl
        have hk' : K (.sl .own 1 (xs ++ bytesAV s)) (x.after 1 xs) none := by cases x <;> exact hk
        refine app_core h ho ht hu hx hd hX hsrc hbl.symm (fun y hy => by obtain ⟨b, _, rfl⟩ := List.mem_map.1 hy; rfl) (fun j k y c hj hk => ?_) (by
          rcases hp with hp | hp | ⟨hp, hne⟩
          · exact .inl hp
          · exact .inr (.inl hp)
          · exact .inr (.inr ⟨hp, by intro he; apply hne; rw [he] at hbl; simpa using hbl.symm⟩)) (by rw [hbl]; exact hmax) (by rw [hbl]; exact hby) (hK _ _ _ hk')
        unfold bytesAV at hj
        rw [List.getElem?_map] at hj
        obtain ⟨b, hb, rfl⟩ := Option.map_eq_some_iff.1 hj
        cases k with
        | succ k => simp at hk
        | zero =>
          cases hk
          exact ⟨.int .u8 (b.toNat : Int), by simp [bcells, hb], .int _ _⟩
      · cases hs
    · cases hs
  · cases hs

/-! calls -/
def ArgsR (I : Cells) (w : World) (xs : List AV) (vs : List Value) : Prop := xs.length = vs.length ∧ ∀ (i : Nat) c u, xs[i]? = some c → vs[i]? = some u → Rd I w c u
def ResR (g : Gh) (w : World) (r : AV) (u : Value) : Prop :=
  match r with
  | .tuple rs => ∃ us : List Value, u = .tuple us.toArray ∧ us.length = rs.length ∧ ∀ (j : Nat) c u, rs[j]? = some c → us[j]? = some u → LocR g w (.res j) c u
  | r => LocR g w (.res 0) r u

/-- of arguments that read so the call leaves a result that reads so; all that was there is as it was -/
structure Good (P : Program) (f : FuncId) (xs : List AV) (r : AV) : Prop where
  out : ∀ (w : World) (I : Cells) (vs : List Value), (∀ b o, I b o → ∃ u, w.cell? ⟨b, o, none⟩ = some u) → ArgsR I w xs vs →
    Calls P f vs.toArray w fun e w' => ∃ (u : Value) (g' : Gh), e = .returned u ∧ Below w.heap.size w w' ∧ g'.base = w.heap.size ∧ (∀ b o, b < w.heap.size → (g'.I b o ↔ I b o)) ∧ (∀ b o, g'.I b o → ∃ u, w'.cell? ⟨b, o, none⟩ = some u) ∧ ResR g' w' r u

def callT (P : Program) (f : FuncId) : Bool :=
  match P.funcs[f]? with
  | some fn => !(fn.name == "runtime.NumGoroutine") && fn.body.isSome
  | none => false

theorem snd_call (h : Rel g w0 I0 σ a w) {o : Oper} {f : FuncId} {xs : List Arg} {ys : Array Operand} {ts : Array TypeId} (ho : o.op = .call { callee := .value (.func f), args := ys, argTypes := ts }) (ht : callT P f = true) (hx : chkArgs xs ys.toList = true) {K : Cont}
    {G : Goods} (hG : ∀ f xs r, G f xs r → Good P f xs r) (hs : (AOp.call f xs).sem G σ.get σ.b K) : Told P w0 I0 σ a w o K := by
  intro next Q hK
  simp only [AOp.sem] at hs
  split at hs
  · rename_i hpl
    rw [frcL_eq] at hs
    obtain ⟨r, hg, hk⟩ := hs
    obtain ⟨hl, hr⟩ := h.args hx
    have hcall := (hG _ _ _ hg).out w g.I (ys.toList.map a.eval) h.ex ⟨by simpa using hl, fun i c u hc hu => by
      rw [List.getElem?_map] at hc
      obtain ⟨x, hxi, rfl⟩ := Option.map_eq_some_iff.1 hc
      obtain ⟨t, ht'⟩ := hr i (x.ev σ.get) u (by rw [List.getElem?_map, hxi]; rfl) hu
      exact (plain_inv (allPlain_inv hpl _ (List.mem_map.2 ⟨x, List.mem_of_getElem? hxi, rfl⟩)) ht').rd.share⟩
    have hrun : (execOp a.eval o).run P w = .ok (.enter f (ys.toList.map a.eval).toArray) w := by
      unfold callT at ht
      split at ht
      · rename_i fn hfn
        simp only [Bool.and_eq_true, Bool.not_eq_true', beq_eq_false_iff_ne, ne_eq] at ht
        obtain ⟨h1, h2⟩ := ht
        have h3 : fn.body.isNone = false := by cases hb : fn.body <;> simp [hb] at h2 ⊢
        have e1 : ys.map a.eval = (ys.toList.map a.eval).toArray := by apply Array.ext'; simp
        simp only [execOp, ho, resolve, Act.eval, Deferred.ofValue, Sem.run_bind, Sem.run_pure, Result.andThen_ok, invoke, callFunc, run_program, hfn, h1, h3, beq_iff_eq, if_false, Bool.false_eq_true]
        simp only [Array.empty_append, Array.append_empty]
        rw [← e1]
      · cases ht
    unfold Oper.wp
    rw [hrun]
    refine Calls.mono hcall fun e w' ⟨u, g', he, hb, hbase, hold, hex, hres⟩ => ?_
    subst he
    show next (a.put o.dst u) w'
    have hgr := h.fresh w' (fun b k => w.heap.size ≤ b ∧ g'.I b k) (fun b => match g'.ow b with | .res j => (match o.dst with | some d => .slot d j | none => .none) | _ => .none) hb (fun b k hx => ⟨hx.1, hex b k hx.2⟩)
    have hrel := h.grew hgr
    have hI : ∀ b k, g'.I b k → (g.I b k ∨ (w.heap.size ≤ b ∧ g'.I b k)) := fun b k hi => by
      rcases Nat.lt_or_ge b w.heap.size with hlt | hge
      · exact .inl ((hold b k hlt).1 hi)
      · exact .inr ⟨hge, hi⟩
    have hbs : g.base ≤ w.heap.size := by rw [h.size]; exact h.below.size
    have hloc : ∀ j c v, LocR g' w' (.res j) c v → ∀ d, o.dst = some d → LocR ⟨g.base, fun b k => g.I b k ∨ (w.heap.size ≤ b ∧ g'.I b k), fun b => if b < w.heap.size then g.ow b else match g'.ow b with | .res j => (match o.dst with | some d => .slot d j | none => .none) | _ => .none, g.bx⟩ w' (.slot d j) c v := fun j c v hl d hd => by
      refine ⟨hl.1.mono hI (fun _ _ _ => rfl), fun es xs he => ?_⟩
      rcases hl.2 es xs he with hn | ⟨blk, cap, cur, e, h1, h2, h3, h4, h5, h6⟩
      · exact .inl hn
      · rw [hbase] at h2
        refine .inr ⟨blk, cap, cur, e, h1, Nat.le_trans hbs h2, ?_, h4, h5, fun k => ⟨fun hi => ?_, fun hlt => .inr ⟨h2, (h6 k).2 hlt⟩⟩⟩
        · show (if blk < w.heap.size then _ else _) = _
          rw [if_neg (by omega), h3, hd]
        · rcases hi with hi | hi
          · exact absurd (h.I_lt hi) (by omega)
          · exact (h6 k).1 hi.2
    refine hK _ _ _ hk _ _ _ (hrel.put o.dst r u (fun t ht' => ?_) (fun b hb' => ?_))
    · cases r with
      | tuple rs =>
        obtain ⟨us, h1, h2, h3⟩ := hres
        exact ⟨us, h1, h2, fun j c v hc hv => hloc j c v (h3 j c v hc hv) t ht'⟩
      | top => exact SlotR.top _ _ _ _
      | bool b => exact (hloc 0 _ _ hres t ht').slot
      | int k n => exact (hloc 0 _ _ hres t ht').slot
      | str s => exact (hloc 0 _ _ hres t ht').slot
      | sl p es xs => exact (hloc 0 _ _ hres t ht').slot
      | agg cs => exact (hloc 0 _ _ hres t ht').slot
      | ptr => cases hres.1
      | eptr => cases hres.1
      | bsl => cases hres.1
    · cases r with
      | ptr => cases hres.1
      | bsl => cases hres.1
      | _ => cases hb'
  · cases hs
end
end Go.Proofs.Ytildhamfnfifjaa

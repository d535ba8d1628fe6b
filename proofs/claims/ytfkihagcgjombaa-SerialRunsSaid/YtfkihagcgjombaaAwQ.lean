/- A slice of a box grows: append to it, all other hands let go. No program's fact stands here. -/
import Derived.Test.YtfkihagcgjombaaAwP
namespace Go.Proofs.Ytfkihagcgjombaa
open Go.RowKit

section
variable {P : Program} {g : Gh} {w0 : World} {I0 : Cells} {σ : St} {a : Act} {w : World}

theorem kill_ref (b : Nat) (v : AV) : ((v.kill b) = v ∧ v.ref ≠ some b) ∨ (v.kill b = .top) := by
  unfold AV.kill
  split
  · rename_i b' es i off
    split
    · exact .inr rfl
    · rename_i hb
      refine .inl ⟨rfl, fun he => ?_⟩
      cases he
      simp at hb
  · rename_i b' es off n
    split
    · exact .inr rfl
    · rename_i hb
      refine .inl ⟨rfl, fun he => ?_⟩
      cases he
      simp at hb
  · rename_i h1 h2
    refine .inl ⟨rfl, fun he => ?_⟩
    cases v with
    | ptr b' es i off => exact h1 _ _ _ _ rfl
    | bsl b' es off n => exact h2 _ _ _ _ rfl
    | _ => cases he

theorem kill_get (σ : St) (b : Nat) (bs : List (Option Box)) (u : Nat) : (⟨σ.v.map (AV.kill b), bs⟩ : St).get u = (σ.get u).kill b := by
  unfold St.get
  simp only [List.getD_eq_getElem?_getD, List.getElem?_map]
  cases σ.v[u]? <;> rfl
/-- what points into the box is let go -/
theorem Rel.kills (h : Rel g w0 I0 σ a w) (b : Nat) : Rel g w0 I0 ⟨σ.v.map (AV.kill b), σ.b⟩ a w :=
  ⟨h.below, h.size, h.old, h.ex, h.defers, by rw [h.len]; simp, fun u => by
    rw [kill_get]
    rcases kill_ref b (σ.get u) with ⟨hk, _⟩ | hk
    · rw [hk]; exact h.slots u
    · rw [hk]; exact SlotR.top _ _ _ _, h.boxes, fun u c hc => by
    rw [kill_get] at hc
    rcases kill_ref b (σ.get u) with ⟨hk, _⟩ | hk
    · rw [hk] at hc; exact h.refs u c hc
    · rw [hk] at hc; cases hc⟩
/-- and the box, too -/
theorem Rel.drop (h : Rel g w0 I0 σ a w) (b : Nat) : Rel g w0 I0 ⟨σ.v.map (AV.kill b), σ.b.set b none⟩ a w :=
  ⟨h.below, h.size, h.old, h.ex, h.defers, by rw [h.len]; simp, fun u => by
    rw [kill_get]
    rcases kill_ref b (σ.get u) with ⟨hk, _⟩ | hk
    · rw [hk]; exact h.slots u
    · rw [hk]; exact SlotR.top _ _ _ _, fun c x hc => by
    have hc' : (σ.b.set b none)[c]? = some (some x) := hc
    rw [List.getElem?_set] at hc'
    split at hc'
    · split at hc' <;> cases hc'
    · exact h.boxes c x hc', fun u c hc => by
    rw [kill_get] at hc
    rcases kill_ref b (σ.get u) with ⟨hk, hne⟩ | hk
    · rw [hk] at hc
      obtain ⟨x, hx⟩ := h.refs u c hc
      refine ⟨x, ?_⟩
      show (σ.b.set b none)[c]? = _
      rw [List.getElem?_set, if_neg (by intro he; subst he; exact hne hc)]
      exact hx
    · rw [hk] at hc; cases hc⟩

theorem flat_rows_src {xs : List (List AV)} {es : Nat} {cur : Array Value} (hes : ∀ x ∈ xs, x.length = es) (hfit : xs.length * es ≤ cur.size)
    (hc : ∀ (j k : Nat) x c, xs[j]? = some x → x[k]? = some c → ∃ u, cur[j * es + k]? = some u ∧ u.oneCell' = true) : ∀ u ∈ cur.toList.take (xs.length * es), u.oneCell' = true := fun u hu => by
  obtain ⟨i, hi⟩ := List.mem_iff_getElem?.1 hu
  rw [List.getElem?_take] at hi
  split at hi
  · rename_i hlt
    have hes0 : 0 < es := by
      rcases Nat.eq_zero_or_pos es with h0 | h0
      · subst h0; simp at hlt
      · exact h0
    have h1 : i / es < xs.length := Nat.div_lt_of_lt_mul (by rw [Nat.mul_comm]; exact hlt)
    have h2 : xs[i / es]? = some xs[i / es] := List.getElem?_eq_getElem h1
    have h3 : i % es < (xs[i / es]).length := by rw [hes _ (List.getElem_mem _)]; exact Nat.mod_lt _ hes0
    obtain ⟨v, hv, ho⟩ := hc _ _ _ _ h2 (List.getElem?_eq_getElem h3)
    rw [show i / es * es + i % es = i by rw [Nat.mul_comm]; exact Nat.div_add_mod i es] at hv
    have : cur.toList[i]? = cur[i]? := by simp
    rw [this, hv] at hi
    cases hi
    exact ho
  · cases hi

theorem grow_run (h : Rel g w0 I0 σ a w) {o : Oper} {t u : TypeId} {b es bytes n len : Nat} {y : Arg} {y' : Operand} (ho : o.op = .call { callee := .builtin .append, args := #[.tmp n, y'], argTypes := #[t, u] }) (ht : appT P t es bytes = true) (hu : srcT P u = true) (hy : chkArg y y' = true)
    {p : Pm} {xs ys : List (List AV)} (hn : σ.get n = .bsl b es 0 len) (hb : σ.b[b]? = some (some ⟨false, es, xs⟩)) (hY : y.ev σ.get = .sl p es ys) (hlen : xs.length = len) (hpos : 0 < ys.length) (hmax : len + ys.length ≤ maxLen)
    (hby : (len + ys.length) * bytes ≤ 140737488355328) (hfx : flatRows xs) (hfl : flatRows ys) :
    ∃ v g' w', (execOp a.eval o).run P w = .ok (.value v) w' ∧ Rel g' w0 I0 ⟨σ.v.map (AV.kill b), σ.b.set b (some ⟨false, es, xs ++ ys⟩)⟩ a w' ∧ ∀ t, SlotR g' w' t (.bsl b es 0 (len + ys.length)) v := by
  subst hlen
  have hblt : b < σ.b.length := (List.getElem?_eq_some_iff.1 hb).1
  obtain ⟨ty, hy'⟩ := h.arg hy
  simp only [appT, Bool.and_eq_true] at ht
  obtain ⟨⟨hsl, hz⟩, hbt⟩ := ht
  have hul := sliceT_inv hsl
  obtain ⟨it, z, hit, hzz, hsz, hzs⟩ := zsT_inv hz
  rw [hit] at hbt
  have hbt := Nat.eq_of_beq_eq_true hbt
  have hslot := h.slots n
  rw [hn] at hslot
  have hexec : ∀ v w', (Builtin.append_ #[t, u] o.type #[a.tmps.getD n undef, a.eval y']).run P w = .ok v w' → (execOp a.eval o).run P w = .ok (.value v) w' := fun v w' hr => by
    have e1 : a.eval (.tmp n) = a.tmps.getD n undef := rfl
    simp only [execOp, ho, resolve, List.map_toArray, List.map_cons, List.map_nil, pure_bind, invoke, builtin, Sem.run_bind, e1, hr]
    rfl
  rw [hY] at hy'
  have hrd := hy'.sl_inv.rd
  generalize hv : a.eval y' = v at hrd hexec
  have hrd' := hrd
  cases hrd with
  | sl _ _ _ base cap u' h1 h2 h3 h4 h5 h6 h7 =>
    obtain ⟨news, hsrc, hnl, hyl, hnews⟩ := hrd'.first (P := P) h.ex
    have hd := h.drop b
    have hdb : ((⟨σ.v.map (AV.kill b), σ.b.set b none⟩ : St)).b[b]? = some none := by
      show (σ.b.set b none)[b]? = _
      rw [List.getElem?_set, if_pos rfl, if_pos hblt]
    have hset : (σ.b.set b none).set b (some ⟨false, es, xs ++ ys⟩) = σ.b.set b (some ⟨false, es, xs ++ ys⟩) := by rw [List.set_set]
    -- a new block of what was there and what is new
    have grow : ∀ (base : Option Addr) (cap : Nat) (olds : List Value), a.tmps.getD n undef = .slice base xs.length cap → (∀ w', w'.heap = w.heap → (Builtin.firstCells es xs.length (.slice base xs.length cap)).run P w' = .ok olds.toArray w') → olds.length = xs.length * es →
        (∀ u ∈ olds, u.oneCell' = true) → (∀ x ∈ xs, x.length = es) → (∀ (j k : Nat) x c, xs[j]? = some x → x[k]? = some c → ∃ u, olds[j * es + k]? = some u ∧ ∃ I w, Rd I w c u) → cap < xs.length + ys.length →
        ∃ v g' w', (execOp a.eval o).run P w = .ok (.value v) w' ∧ Rel g' w0 I0 ⟨σ.v.map (AV.kill b), σ.b.set b (some ⟨false, es, xs ++ ys⟩)⟩ a w' ∧ ∀ t, SlotR g' w' t (.bsl b es 0 (xs.length + ys.length)) v := by
      intro base cap olds hbv hold hol hoo hox hoc hlt
      have hr := run_append_grow' (ty := o.type) hul hu hit hzz hsz hsrc (base := base) (sLen := xs.length) (cap := cap) hold hlt hmax (growslice_fits hlt (by rw [hbt]; exact hby))
      have hcg := grownCap_ge w (xs.length + ys.length) cap (P.elem t)
      have hcm := grownCap_le_maxLen w (xs.length + ys.length) cap (P.elem t) hmax
      obtain ⟨g1, hrel, hbx, hob⟩ := hd.newRows (w' := w.drew.alloc (.cells (olds.toArray ++ news.toArray ++ Builtin.zeroCells z.cells (grownCap w (xs.length + ys.length) cap (P.elem t) - (xs.length + ys.length))) (P.elem t)))
        ((Below.refl _ _).drew.alloc (Nat.le_refl _) _) (Nat.le_refl _) (heap_alloc_new w.drew _) hdb es (xs ++ ys) (by simp only [Array.size_append, List.size_toArray, List.length_append, hol, hsrc.size, Nat.add_mul]; omega) (fun x hx => by
          rcases List.mem_append.1 hx with hx | hx
          · exact hox x hx
          · exact hyl x hx) (fun j k x c hj hk => by
          have hxl : x.length = es := by
            rcases List.mem_append.1 (List.mem_of_getElem? hj) with hx | hx
            · exact hox x hx
            · exact hyl x hx
          have hkl : k < es := by have := (List.getElem?_eq_some_iff.1 hk).1; omega
          by_cases hjx : j < xs.length
          · rw [List.getElem?_append_left hjx] at hj
            obtain ⟨v, hv1, hv2⟩ := hoc _ _ _ _ hj hk
            have hlt2 : j * es + k < olds.length := (List.getElem?_eq_some_iff.1 hv1).1
            refine ⟨hfx x (List.mem_of_getElem? hj) c (List.mem_of_getElem? hk), v, ?_, hoo v (List.mem_of_getElem? hv1), hv2⟩
            rw [Array.append_assoc, Array.getElem?_append_left (by simpa using hlt2)]
            simpa using hv1
          · rw [List.getElem?_append_right (by omega)] at hj
            obtain ⟨v, hv1, hv2⟩ := hnews _ _ _ _ hj hk
            have hlt2 := (List.getElem?_eq_some_iff.1 hv1).1
            have hjk : j * es + k = olds.length + ((j - xs.length) * es + k) := by
              have : (xs.length + (j - xs.length)) * es = j * es := by congr 1; omega
              rw [Nat.add_mul] at this
              rw [hol]
              omega
            refine ⟨hfl x (List.mem_of_getElem? hj) c (List.mem_of_getElem? hk), v, ?_, hsrc.one v (List.mem_of_getElem? hv1), _, _, hv2⟩
            rw [Array.append_assoc, hjk, Array.getElem?_append_right (by simp), Array.getElem?_append_left (by simp; omega)]
            simpa using hv1)
      have hrel2 : Rel g1 w0 I0 ⟨σ.v.map (AV.kill b), (σ.b.set b none).set b (some ⟨false, es, xs ++ ys⟩)⟩ a _ := hrel
      rw [hset] at hrel2
      refine ⟨_, g1, _, hexec _ _ (by rw [hbv]; exact hr), hrel2, fun t => .inl ⟨_, by rw [hbx, Nat.zero_mul], hcg, hcm, ⟨_, _, by rw [hbx]; exact heap_alloc_new w.drew _, ?_⟩, hob⟩⟩
      simp only [Array.size_append, List.size_toArray, hol, hsrc.size, size_zeroCells, hzs, ← Nat.add_mul, Nat.zero_add]
      exact Nat.mul_le_mul_right _ (by omega)
    rcases hslot with ⟨cp, hbv, hle, hcm, ⟨cur, e, hh, hsz2⟩, hob⟩ | ⟨h0, bs0, hbv⟩
    · rw [Nat.zero_mul] at hbv
      rw [Nat.zero_add] at hsz2
      have hfit0 : xs.length * es ≤ cur.size := Nat.le_trans (Nat.mul_le_mul_right _ hle) hsz2
      -- the rows as they lie
      have hrows : (∀ x ∈ xs, x.length = es) ∧ ∀ (j k : Nat) x c, xs[j]? = some x → x[k]? = some c → ∃ u, cur[j * es + k]? = some u ∧ u.oneCell' = true ∧ LocR g w (.cell b j k) c u := by
        rcases h.boxes b _ hb with hx | ⟨cur2, e2, hh2, _, _, _, _, hxl, hcc⟩
        · have hx : xs = [] := hx
          subst hx
          exact ⟨by simp, fun j k x c hj => by simp at hj⟩
        · rw [hh] at hh2
          cases hh2
          exact ⟨hxl, hcc⟩
      obtain ⟨hxl, hcc⟩ := hrows
      rcases Nat.lt_or_ge cp (xs.length + ys.length) with hlt | hroom
      · have hta : (cur.toList.take (xs.length * es)).length = xs.length * es := by simp; omega
        refine grow _ cp (cur.toList.take (xs.length * es)) hbv (fun w' hw' => run_firstCells_some w' es xs.length ⟨g.bx b, 0, none⟩ _ _ _ hta fun j v hv => ?_) hta (flat_rows_src hxl hfit0 fun j k x c hj hk => by
            obtain ⟨u, q1, q2, _⟩ := hcc j k x c hj hk
            exact ⟨u, q1, q2⟩) hxl (fun j k x c hj hk => by
            obtain ⟨u, q1, q2, q3⟩ := hcc j k x c hj hk
            have hjl : j < xs.length := (List.getElem?_eq_some_iff.1 hj).1
            have hkl : k < es := by have := (List.getElem?_eq_some_iff.1 hk).1; have := hxl x (List.mem_of_getElem? hj); omega
            have hltt : j * es + k < xs.length * es := by
              have : (j + 1) * es ≤ xs.length * es := Nat.mul_le_mul_right _ hjl
              rw [Nat.add_mul] at this
              omega
            refine ⟨u, ?_, _, _, q3.rd⟩
            rw [List.getElem?_take, if_pos hltt]
            simpa using q1) hlt
        rw [List.getElem?_take] at hv
        split at hv
        · rw [Addr.add_lit, cell_of_row w' _ _ cur e (0, 0) (by rw [hw']; exact hh), Nat.zero_add]
          simpa using hv
        · cases hv
      · have hbnd : xs.length * es + news.length ≤ cur.size := by
          rw [hsrc.size, ← Nat.add_mul]
          exact Nat.le_trans (Nat.mul_le_mul_right _ hroom) hsz2
        have hr := run_append_room' (ty := o.type) (t := t) (u := u) hul hu hit hsz hsrc hh hroom hbnd
        let cur' := (cur.toList.take (xs.length * es) ++ news ++ cur.toList.drop (xs.length * es + news.length)).toArray
        let w' := w.setRow (g.bx b) cur'
        have hother : ∀ c, c ≠ g.bx b → w'.heap[c]? = w.heap[c]? := fun c hc => setRow_other w _ _ _ hc
        have hh' : w'.heap[g.bx b]? = some (.cells cur' e (0, 0)) := setRow_heap w (g.bx b) cur _ e _ hh
        have hsz' : cur'.size = cur.size := by
          simp only [cur', List.size_toArray, List.length_append, List.length_take, List.length_drop, Array.length_toList]
          omega
        have hget : ∀ k, cur'[k]? = if xs.length * es ≤ k ∧ k < xs.length * es + news.length then news[k - xs.length * es]? else cur[k]? := fun k => spliced_get cur news _ k hbnd
        have hIne : ∀ c o, g.I c o → c ≠ g.bx b := fun c o hc he => hob.2.2 o (he ▸ hc)
        have hkeep : ∀ L, L ≠ .box b → Keep g w g w' L := fun L hL =>
          ⟨rfl, fun _ _ => rfl, fun _ _ h => h, fun c o hc => cell?_of_heap (hother c (hIne c o hc)) o, fun c hlt hc => ⟨hc, hother c (fun he => hL (by rw [← hc, he, hob.2.1])), fun _ h => h⟩, SzS.one hother fun cur2 e2 h2 => by
            rw [hh] at h2; cases h2
            exact ⟨_, hh', hsz'⟩⟩
        have hnew : BoxR g w' b ⟨false, es, xs ++ ys⟩ := by
          refine .inr ⟨cur', e, hh', hob.1, hob.2.1, ?_, hob.2.2, fun x hx => ?_, fun j k x c hj hk => ?_⟩
          · show (xs ++ ys).length * es ≤ cur'.size
            rw [hsz', List.length_append]
            exact Nat.le_trans (Nat.mul_le_mul_right _ hroom) hsz2
          · rcases List.mem_append.1 hx with hx | hx
            · exact hxl x hx
            · exact hyl x hx
          · show ∃ u, cur'[j * es + k]? = some u ∧ _
            have hj : (xs ++ ys)[j]? = some x := hj
            have hxl2 : x.length = es := by
              rcases List.mem_append.1 (List.mem_of_getElem? hj) with hx | hx
              · exact hxl x hx
              · exact hyl x hx
            have hkl : k < es := by have := (List.getElem?_eq_some_iff.1 hk).1; omega
            rw [hget]
            by_cases hjx : j < xs.length
            · rw [List.getElem?_append_left hjx] at hj
              have hltt : j * es + k < xs.length * es := by
                have : (j + 1) * es ≤ xs.length * es := Nat.mul_le_mul_right _ hjx
                rw [Nat.add_mul] at this
                omega
              rw [if_neg (by omega)]
              obtain ⟨u, q1, q2, q3⟩ := hcc _ _ _ _ hj hk
              exact ⟨u, q1, q2, flat_loc (hfx x (List.mem_of_getElem? hj) c (List.mem_of_getElem? hk)) q3.rd _ _ _⟩
            · rw [List.getElem?_append_right (by omega)] at hj
              have hjy : j - xs.length < ys.length := (List.getElem?_eq_some_iff.1 hj).1
              obtain ⟨v, hv1, hv2⟩ := hnews _ _ _ _ hj hk
              have hjk : j * es + k = xs.length * es + ((j - xs.length) * es + k) := by
                have : (xs.length + (j - xs.length)) * es = j * es := by congr 1; omega
                rw [Nat.add_mul] at this
                omega
              have hltt : (j - xs.length) * es + k < news.length := (List.getElem?_eq_some_iff.1 hv1).1
              rw [if_pos (by omega), show j * es + k - xs.length * es = (j - xs.length) * es + k by omega]
              exact ⟨v, hv1, hsrc.one v (List.mem_of_getElem? hv1), flat_loc (hfl x (List.mem_of_getElem? hj) c (List.mem_of_getElem? hk)) hv2 _ _ _⟩
        have hk := h.kills b
        have hrel := hk.boxed g w' b ⟨false, es, xs ++ ys⟩ hblt ⟨rfl, rfl, rfl, by simp [w', World.setRow], fun k hk => hother k (by have := hob.1; omega)⟩ rfl rfl (fun c o hc => by
            obtain ⟨u, hu⟩ := h.ex c o hc
            exact ⟨u, (cell?_of_heap (hother c (hIne c o hc)) o).trans hu⟩) (fun _ _ => rfl) (fun L _ hL _ => hkeep L hL) hnew (.inr ⟨rfl, fun h => h⟩)
        refine ⟨_, g, w', hexec _ _ (by rw [hbv]; exact hr), hrel, fun t => .inl ⟨cp, by rw [Nat.zero_mul], hroom, hcm, ⟨_, _, hh', by rw [hsz', Nat.zero_add]; exact hsz2⟩, hob⟩⟩
    · have hx0 : xs = [] := List.eq_nil_of_length_eq_zero h0
      subst hx0
      exact grow bs0 0 [] (by rw [hbv]; rfl) (fun w' _ => by
        cases bs0 with
        | none => simp [Builtin.firstCells]
        | some ad => exact run_firstCells_some w' es 0 ad _ _ [] (by simp) (by simp)) (by simp) (by simp) (by simp) (fun j k x c hj => by simp at hj) (by simp; exact hpos)

def grwOK (P : Program) (ops : Array Oper) (pre : List AOper) (d n es bytes : Nat) (y : Arg) (post : List AOper) : Bool :=
  chkOpers P ops pre (ops.toList.take pre.length) && (match ops.toList.drop pre.length with
    | [] => false
    | o :: os => o.guard.isNone && chkDst (some d) o.dst && (match o.op with
      | .call ⟨.builtin .append, ⟨[.tmp m, y']⟩, ⟨[t, u]⟩⟩ => Nat.beq m n && appT P t es bytes && srcT P u && chkArg y y'
      | _ => false) && chkOpers P ops post os)

/-- a part of a region, in the order of the text -/
theorem reg_pre {ops : Array Oper} {G : Goods} (hG : ∀ f xs r, G f xs r → Good P f xs r) {Q : Exit → Act → World → Prop} {K : St → Prop} {rest : List Nat} (hK : ∀ σ', K σ' → ∀ g' a' w', Rel g' w0 I0 σ' a' w' → wpOps P ops Q rest a' w') :
    ∀ (xs : List AOper) (k : Nat) (g : Gh) (σ : St) (a : Act) (w : World), (∀ (i : Nat) x, xs[i]? = some x → ∃ o, ops[k + i]? = some o ∧ chkOper P ops x o = true) → Rel g w0 I0 σ a w → evOps G xs σ K →
      wpOps P ops Q (List.range' k xs.length ++ rest) a w
  | [], k, g, σ, a, w, _, h, hs => hK σ hs g a w h
  | x :: xs, k, g, σ, a, w, hc, h, hs => by
    obtain ⟨o, ho, hco⟩ := hc 0 x rfl
    simp only [List.length_cons, List.range'_succ, List.cons_append]
    rw [wpOps_cons]
    refine oper_told h hco (by simpa using ho) hG hs fun σ' hk g' a' w' hr => ?_
    exact reg_pre hG hK xs (k + 1) g' σ' a' w' (fun i y hy => by
      obtain ⟨o', ho', hc'⟩ := hc (i + 1) y hy
      exact ⟨o', by rw [← ho']; congr 1; omega, hc'⟩) hr hk

theorem grw_told (h : Rel g w0 I0 σ a w) {G : Goods} (hG : ∀ f xs r, G f xs r → Good P f xs r) {id : Nat} {ops : Array Oper} {pre post : List AOper} {d n b es bytes : Nat} {y : Arg} (hc : grwOK P ops pre d n es bytes y post = true) {K : St → Prop}
    (hs : evOps G pre σ fun σ1 => match σ1.get n with
    | .bsl b' es' off len => match σ1.b[b]? with
      | some (some ⟨false, es2, xs⟩) => match y.ev σ1.get with
        | .sl _ es3 ys => match Nat.beq b' b, Nat.beq es' es, Nat.beq es2 es, Nat.beq es3 es, Nat.beq off 0 with
          | true, true, true, true, true => xs.length = len ∧ 0 < ys.length ∧ len + ys.length ≤ maxLen ∧ (len + ys.length) * bytes ≤ 140737488355328 ∧ flatRows xs ∧ flatRows ys ∧
              frc ((σ1.v.map (AV.kill b)).set d (.bsl b es 0 (len + ys.length))) fun vl => frcB (σ1.b.set b (some ⟨false, es, xs ++ ys⟩)) fun bl => evOps G post ⟨vl, bl⟩ K
          | _, _, _, _, _ => False
        | _ => False
      | _ => False
    | _ => False) {Q : Exit → Act → World → Prop} (hQ : ∀ σ', K σ' → ∀ g' a' w', Rel g' w0 I0 σ' a' w' → Q .normal a' w') : (Code.region id ops false).wp P Q a w := by
  simp only [grwOK, Bool.and_eq_true] at hc
  obtain ⟨hpre, hc⟩ := hc
  split at hc
  · cases hc
  rename_i o os hdrop
  simp only [Bool.and_eq_true] at hc
  obtain ⟨⟨⟨hgd, hdst⟩, hop⟩, hpost⟩ := hc
  have hdst := chkDst_inv hdst
  split at hop
  · rename_i m y' t u ho
    simp only [Bool.and_eq_true] at hop
    obtain ⟨⟨⟨hm, hT⟩, hU⟩, hy⟩ := hop
    have hm := Nat.eq_of_beq_eq_true hm
    subst hm
    have hlt : pre.length < ops.toList.length := by
      rcases Nat.lt_or_ge pre.length ops.toList.length with hlt | hge
      · exact hlt
      · rw [List.drop_of_length_le hge] at hdrop; cases hdrop
    have hmid : ops[pre.length]? = some o := by
      have : ops.toList[pre.length]? = some o := by
        have := congrArg (·[0]?) hdrop
        simpa [List.getElem?_drop] using this
      simpa using this
    have hos : ∀ i, os[i]? = ops[pre.length + 1 + i]? := fun i => by
      have := congrArg (·[i + 1]?) hdrop
      simp only [List.getElem?_drop, List.getElem?_cons_succ] at this
      rw [← this, show pre.length + (i + 1) = pre.length + 1 + i by omega]
      simp
    obtain ⟨hlp, hgp⟩ := chkOpers_get hpre
    obtain ⟨hlq, hgq⟩ := chkOpers_get hpost
    refine wp_region ?_
    have hsize : ops.size = pre.length + (post.length + 1) := by
      have h1 := congrArg List.length hdrop
      simp only [List.length_drop, List.length_cons, Array.length_toList] at h1
      rw [hlq]
      simp at hlt
      omega
    rw [List.range_eq_range', hsize, ← List.range'_append_1 (s := 0), List.range'_succ, Nat.zero_add]
    refine reg_pre (K := _) hG (fun σ1 hk g1 a1 w1 hr => ?_) pre 0 g σ a w (fun i x hx => by
      have hi : i < pre.length := (List.getElem?_eq_some_iff.1 hx).1
      have ho : (ops.toList.take pre.length)[i]? = some (ops.toList[i]'(by omega)) := by rw [List.getElem?_take, if_pos hi]; exact List.getElem?_eq_getElem _
      exact ⟨_, by rw [Nat.zero_add]; simp, hgp i x _ hx ho⟩) h hs
    simp only at hk
    split at hk
    · rename_i b' es' off len hn
      split at hk
      · rename_i es2 xs hb
        split at hk
        · rename_i p es3 ys hY
          split at hk
          · rename_i q1 q2 q3 q4 q5
            have q1 := Nat.eq_of_beq_eq_true q1
            have q2 := Nat.eq_of_beq_eq_true q2
            have q3 := Nat.eq_of_beq_eq_true q3
            have q4 := Nat.eq_of_beq_eq_true q4
            have q5 := Nat.eq_of_beq_eq_true q5
            subst q1; subst q2; subst q3; subst q4; subst q5
            obtain ⟨r1, r2, r3, r4, r5, r6, hk⟩ := hk
            rw [frc_eq, frcB_eq] at hk
            obtain ⟨v, g2, w2, hrun, hrel, hsl⟩ := grow_run hr ho hT hU hy hn hb hY r1 r2 r3 r4 r5 r6
            rw [wpOps_cons]
            refine wpOp_bare hmid hgd (wp_val hrun ?_)
            rw [← hdst]
            have hput := hrel.put (some d) (.bsl b' es3 0 (len + ys.length)) v (fun t _ => hsl t) (fun c hc => by
              cases hc
              refine ⟨⟨false, es3, xs ++ ys⟩, ?_⟩
              show (σ1.b.set b' _)[b']? = _
              rw [List.getElem?_set, if_pos rfl, if_pos (List.getElem?_eq_some_iff.1 hb).1])
            exact reg_told (P := P) (ops := ops) (w0 := w0) (I0 := I0) hG hQ post (pre.length + 1) g2 _ _ _ (fun i x hx => by
              have hi : i < post.length := (List.getElem?_eq_some_iff.1 hx).1
              have ho2 : os[i]? = some (os[i]'(by omega)) := List.getElem?_eq_getElem _
              exact ⟨_, (hos i).symm.trans ho2, hgq i x _ hx ho2⟩) hput hk
          · cases hk
        · cases hk
      · cases hk
    · cases hk
  · cases hop
end
end Go.Proofs.Ytfkihagcgjombaa

/- append is told rightly. No program's fact stands here. -/
import Derived.Test.YtfkihagcgjombaaAwC
namespace Go.Proofs.Ytfkihagcgjombaa
open Go.RowKit

section
variable {P : Program} {g : Gh} {w0 : World} {I0 : Cells} {σ : St} {a : Act} {w : World}

/-- what is appended: n elements, these cells -/
structure Src (P : Program) (w : World) (es : Nat) (X : Value) (n : Nat) (news : List Value) : Prop where
  len : ∀ w', (Builtin.lenOf X).run P w' = .ok n w'
  first : ∀ w', w'.heap = w.heap → (Builtin.firstCells es n X).run P w' = .ok news.toArray w'
  size : news.length = n * es
  one : ∀ u ∈ news, u.oneCell' = true

def srcT (P : Program) (u : TypeId) : Bool :=
  match P.underlying u with
  | some (.slice _) => true
  | some .string => true
  | _ => false
theorem srcT_inv {u : TypeId} (h : srcT P u = true) : (∃ e, P.underlying u = some (.slice e)) ∨ P.underlying u = some .string := by
  unfold srcT at h
  split at h
  · exact .inl ⟨_, by assumption⟩
  · exact .inr (by assumption)
  · cases h

theorem run_append_room' {t u ty e : TypeId} {i : TypeInfo} {es : Nat} (ht : P.underlying t = some (.slice e)) (hu : srcT P u = true) (hi : P.info? e = some i) (hsz : i.size = es) {X : Value} {n : Nat} {news : List Value} (hX : Src P w es X n news)
    {b sLen cap : Nat} {cur : Array Value} {e' : TypeId} (hh : w.heap[b]? = some (.cells cur e' (0, 0))) (hroom : sLen + n ≤ cap) (hfit : sLen * es + news.length ≤ cur.size) :
    (Builtin.append_ #[t, u] ty #[.slice (some ⟨b, 0, none⟩) sLen cap, X]).run P w =
      .ok (.slice (some ⟨b, 0, none⟩) (sLen + n) cap) (w.setRow b (cur.toList.take (sLen * es) ++ news ++ cur.toList.drop (sLen * es + news.length)).toArray) := by
  have hst := run_storeCells_at P b (sLen * es) e' news 0 cur w hh (by simpa using hfit) hX.one
  simp only [Nat.add_zero] at hst
  have hl := hX.len w
  have hf := hX.first w rfl
  rcases srcT_inv hu with ⟨e2, hd⟩ | hd <;> simp [Builtin.append_, run_underlying ht, run_underlying hd, sizeOf, typeInfo, hi, hsz, hl, hf, hroom, Addr.add_lit, hst]

theorem run_append_stay' {t u ty e : TypeId} {i : TypeInfo} {es : Nat} (ht : P.underlying t = some (.slice e)) (hu : srcT P u = true) (hi : P.info? e = some i) (hsz : i.size = es) {X : Value} {news : List Value} (hX : Src P w es X 0 news) :
    (Builtin.append_ #[t, u] ty #[.slice none 0 0, X]).run P w = .ok (.slice none 0 0) w := by
  have hl := hX.len w
  have hf := hX.first w rfl
  rcases srcT_inv hu with ⟨e2, hd⟩ | hd <;> simp [Builtin.append_, run_underlying ht, run_underlying hd, sizeOf, typeInfo, hi, hsz, hl, hf]

theorem run_append_grow' {t u ty e : TypeId} {i : TypeInfo} {z : Value} {es : Nat} (ht : P.underlying t = some (.slice e)) (hu : srcT P u = true) (hi : P.info? e = some i) (hz : i.zero = some z) (hsz : i.size = es) {X : Value} {n : Nat} {news : List Value} (hX : Src P w es X n news)
    {base : Option Addr} {sLen cap : Nat} {olds : List Value} (hold : ∀ w', w'.heap = w.heap → (Builtin.firstCells es sLen (.slice base sLen cap)).run P w' = .ok olds.toArray w') (hg : cap < sLen + n) (h63 : sLen + n ≤ maxLen)
    (hfit : Builtin.nextslicecap (sLen + n) cap * i.bytes ≤ 281474976710656) :
    (Builtin.append_ #[t, u] ty #[.slice base sLen cap, X]).run P w =
      .ok (.slice (some ⟨w.heap.size, 0, none⟩) (sLen + n) (grownCap w (sLen + n) cap e)) (w.drew.alloc (.cells (olds.toArray ++ news.toArray ++ Builtin.zeroCells z.cells (grownCap w (sLen + n) cap e - (sLen + n))) e)) := by
  have hn : ¬ (sLen + n ≤ cap) := by omega
  have h63' : ¬ (9223372036854775807 < ((sLen : Int) + (n : Int))) := by simp only [maxLen] at h63; omega
  have h48 : ¬ (281474976710656 < Builtin.nextslicecap (sLen + n) cap * i.bytes) := by omega
  have hl := hX.len w
  have h1 := hX.first w.drew rfl
  have h2 := hold w.drew rfl
  rcases srcT_inv hu with ⟨e2, hd⟩ | hd <;> simp [Builtin.append_, run_underlying ht, run_underlying hd, sizeOf, typeInfo, hi, hsz, hl, hn, h63', h48, Question.forced, h1, h2, zeroValue, hz, newRow, grownCap]
  all_goals (rw [← Array.append_assoc]; simp only [List.append_toArray])

/-- cells that stay read as a list -/
theorem Rd.first {p : Pm} {es : Nat} {xs : List (List AV)} {base : Option Addr} {n cap : Nat} (h : Rd g.I w (.sl p es xs) (.slice base n cap)) (_ : ∀ b o, g.I b o → ∃ u, w.cell? ⟨b, o, none⟩ = some u) :
    ∃ vs : List Value, Src P w es (.slice base n cap) n vs ∧ n = xs.length ∧ (∀ x ∈ xs, x.length = es) ∧ ∀ (j k : Nat) x c, xs[j]? = some x → x[k]? = some c → ∃ u, vs[j * es + k]? = some u ∧ Rd g.I w c u := by
  cases h with
  | sl _ _ _ _ _ u hcap hmax hclip hnil hes hb hr =>
    by_cases hne : xs = []
    · subst hne
      refine ⟨[], ⟨fun w' => rfl, fun w' _ => ?_, by simp, by simp⟩, rfl, hes, fun j k x c hj => by simp at hj⟩
      cases base <;> simp [Builtin.firstCells, loadCells, loadCellsFrom]
    · obtain ⟨gb, ob, hbase, hc⟩ := hb hne
      subst hbase
      let vs := (List.range (xs.length * es)).map fun k => u (k / es) (k % es)
      have hkey : ∀ k, k < xs.length * es → ∃ x c, xs[k / es]? = some x ∧ x[k % es]? = some c := fun k hk => by
        have hes0 : 0 < es := by rcases Nat.eq_zero_or_pos es with h0 | h0; · subst h0; simp at hk
                                 · exact h0
        have h1 : k / es < xs.length := Nat.div_lt_of_lt_mul (by rw [Nat.mul_comm]; exact hk)
        have h2 : xs[k / es]? = some xs[k / es] := List.getElem?_eq_getElem h1
        have h3 : k % es < (xs[k / es]).length := by rw [hes _ (List.getElem_mem _)]; exact Nat.mod_lt _ hes0
        exact ⟨_, _, h2, List.getElem?_eq_getElem h3⟩
      have hvs : ∀ k v, vs[k]? = some v → k < xs.length * es ∧ v = u (k / es) (k % es) := fun k v hk => by
        rw [List.getElem?_map] at hk
        obtain ⟨i, hi, rfl⟩ := Option.map_eq_some_iff.1 hk
        have hl : k < xs.length * es := by have := (List.getElem?_eq_some_iff.1 hi).1; simpa using this
        have : i = k := by simp [List.getElem?_range hl] at hi; exact hi.symm
        subst this
        exact ⟨hl, rfl⟩
      have hdm : ∀ k, k / es * es + k % es = k := fun k => by rw [Nat.mul_comm]; exact Nat.div_add_mod k es
      refine ⟨vs, ⟨fun w' => rfl, fun w' hw' => ?_, by simp [vs], fun v hv => ?_⟩, rfl, hes, fun j k x c hj hk => ?_⟩
      · refine run_firstCells_some w' es xs.length ⟨gb, ob, none⟩ _ _ vs (by simp [vs]) fun k v hk => ?_
        obtain ⟨hl, rfl⟩ := hvs k v hk
        obtain ⟨x, c, h1, h2⟩ := hkey k hl
        obtain ⟨_, h4, _⟩ := hc _ _ _ _ h1 h2
        rw [hdm] at h4
        rw [Addr.add_lit, ← h4]
        simp [World.cell?, hw']
      · obtain ⟨k, hk⟩ := List.mem_iff_getElem?.1 hv
        obtain ⟨hl, rfl⟩ := hvs k v hk
        obtain ⟨x, c, h1, h2⟩ := hkey k hl
        exact (hc _ _ _ _ h1 h2).2.2
      · have hjl : j < xs.length := (List.getElem?_eq_some_iff.1 hj).1
        have hkl : k < es := by have := (List.getElem?_eq_some_iff.1 hk).1; have := hes x (List.mem_of_getElem? hj); omega
        have hlt : j * es + k < xs.length * es := by
          have : (j + 1) * es ≤ xs.length * es := Nat.mul_le_mul_right _ hjl
          rw [Nat.add_mul] at this
          omega
        refine ⟨u j k, ?_, hr _ _ _ _ hj hk⟩
        show ((List.range (xs.length * es)).map fun k => u (k / es) (k % es))[j * es + k]? = _
        rw [List.getElem?_map, List.getElem?_range hlt]
        have e1 : (j * es + k) / es = j := by rw [Nat.mul_comm, Nat.mul_add_div (by omega), Nat.div_eq_of_lt hkl, Nat.add_zero]
        have e2 : (j * es + k) % es = k := by rw [Nat.add_comm, Nat.add_mul_mod_self_right, Nat.mod_eq_of_lt hkl]
        simp [e1, e2]

def appT (P : Program) (t : TypeId) (es bytes : Nat) : Bool :=
  sliceT P t && bsT.zsT P (P.elem t) es && (match P.info? (P.elem t) with | some i => Nat.beq i.bytes bytes | none => false)

/-- where the base was: it is read alone from now on -/
def Arg.after (x : Arg) (es : Nat) (xs : List (List AV)) : Option (Nat × AV) := match x with | .t n => some (n, .sl .sh es xs) | .c _ => none

theorem app_core (h : Rel g w0 I0 σ a w) {o : Oper} {t u : TypeId} {es bytes : Nat} {x : Arg} {x' y' : Operand} (ho : o.op = .call { callee := .builtin .append, args := #[x', y'], argTypes := #[t, u] }) (ht : appT P t es bytes = true) (hu : srcT P u = true) (hx : chkArg x x' = true) (hd : ∀ n, x = .t n → o.dst ≠ some n)
    {p : Pm} {xs ys : List (List AV)} (hX : x.ev σ.get = .sl p es xs) {n : Nat} {news : List Value} (hsrc : Src P w es (a.eval y') n news) (hn : n = ys.length) (hyl : ∀ y ∈ ys, y.length = es)
    (hnews : ∀ (j k : Nat) y c, ys[j]? = some y → y[k]? = some c → ∃ u, news[j * es + k]? = some u ∧ Rd g.I w c u) (hp : p = .own ∨ p = .nil ∨ p = .clip ∧ ys ≠ []) (hmax : xs.length + ys.length ≤ maxLen) (hby : (xs.length + ys.length) * bytes ≤ 140737488355328)
    {next : Act → World → Prop} {Q : Exit → Act → World → Prop} (hK : ∀ g' a' w', Rel g' w0 I0 (σ.app o.dst (.sl .own es (xs ++ ys)) (x.after es xs) none) a' w' → next a' w') : o.wp P a w next Q := by
  obtain ⟨tx, hx'⟩ := h.arg hx
  rw [hX] at hx'
  simp only [appT, Bool.and_eq_true] at ht
  obtain ⟨⟨hsl, hz⟩, hbt⟩ := ht
  have hul := sliceT_inv hsl
  obtain ⟨it, z, hit, hzz, hsz, hzs⟩ := zsT_inv hz
  rw [hit] at hbt
  have hbt := Nat.eq_of_beq_eq_true hbt
  subst hn
  have hlen : (xs ++ ys).length = xs.length + ys.length := List.length_append
  have hrd := hx'.sl_inv.rd
  have hexec : ∀ v w', (Builtin.append_ #[t, u] o.type #[a.eval x', a.eval y']).run P w = .ok v w' → (execOp a.eval o).run P w = .ok (.value v) w' := fun v w' hr => by
    simp only [execOp, ho, resolve, List.map_toArray, List.map_cons, List.map_nil, pure_bind, invoke, builtin, Sem.run_bind, hr]
    rfl
  -- the base's slot is read alone
  have hbase : ∀ {g' : Gh} {w' : World} {d : Option Nat} {v : Value}, Rel g' w0 I0 σ a w' → (∀ m, x = .t m → Rd g'.I w' (.sl .sh es xs) (a.eval x')) → (∀ t, d = some t → SlotR g' w' t (.sl .own es (xs ++ ys)) v) → (∀ m, x = .t m → d ≠ some m) → Rel g' w0 I0 (σ.app d (.sl .own es (xs ++ ys)) (x.after es xs) none) (a.put d v) w' := fun {g' w' d v} hrel hsh hv hdd => by
    cases x with
    | c _ => exact hrel.put d _ v hv (by simp [AV.ref])
    | t m =>
      have hev : a.eval x' = a.tmps.getD m undef := by
        cases x' with
        | tmp m' => have := Nat.eq_of_beq_eq_true hx; subst this; rfl
        | _ => cases hx
      have hs := hsh m rfl
      rw [hev] at hs
      exact hrel.move (fun L => L) m (.sl .sh es xs) d _ v (hdd m rfl) (fun _ _ _ _ => rfl) (fun _ => rfl) (fun _ _ _ => rfl) (hs.slots (by simp) m) (fun t ht => hv t ht) (.inr rfl) (by simp [AV.ref])
  -- it grows: a new row
  have grow : ∀ base cap, a.eval x' = .slice base xs.length cap → cap < xs.length + ys.length → o.wp P a w next Q := fun base cap hv hlt => by
    rw [hv] at hrd
    obtain ⟨olds, hosrc, _, hoes, holds⟩ := hrd.first (P := P) h.ex
    have hr := run_append_grow' (ty := o.type) hul hu hit hzz hsz hsrc (base := base) (sLen := xs.length) (cap := cap) hosrc.first hlt hmax (growslice_fits hlt (by rw [hbt]; exact hby))
    have hcg := grownCap_ge w (xs.length + ys.length) cap (P.elem t)
    obtain ⟨g', hrel, _, hown⟩ := h.newRow (w' := w.drew.alloc (.cells (olds.toArray ++ news.toArray ++ Builtin.zeroCells z.cells (grownCap w (xs.length + ys.length) cap (P.elem t) - (xs.length + ys.length))) (P.elem t)))
      ((Below.refl _ _).drew.alloc (Nat.le_refl _) _) (heap_alloc_new w.drew _) es (xs ++ ys) (grownCap w (xs.length + ys.length) cap (P.elem t)) (by omega) (grownCap_le_maxLen w _ cap _ hmax)
      (by simp only [Array.size_append, List.size_toArray, hosrc.size, hsrc.size, hlen, Nat.add_mul]; omega) (fun y hy => by
        rcases List.mem_append.1 hy with hy | hy
        · exact hoes y hy
        · exact hyl y hy) (fun j k y c hj hk => by
        have hyl' : y.length = es := by
          rcases List.mem_append.1 (List.mem_of_getElem? hj) with hy | hy
          · exact hoes y hy
          · exact hyl y hy
        have hkl : k < es := by have := (List.getElem?_eq_some_iff.1 hk).1; omega
        by_cases hjx : j < xs.length
        · rw [List.getElem?_append_left hjx] at hj
          obtain ⟨v, hv1, hv2⟩ := holds _ _ _ _ hj hk
          have hlt2 : j * es + k < olds.length := (List.getElem?_eq_some_iff.1 hv1).1
          refine ⟨v, ?_, hosrc.one v (List.mem_of_getElem? hv1), hv2⟩
          rw [Array.append_assoc, Array.getElem?_append_left (by simpa using hlt2)]
          simpa using hv1
        · rw [List.getElem?_append_right (by omega)] at hj
          obtain ⟨v, hv1, hv2⟩ := hnews _ _ _ _ hj hk
          have hlt2 := (List.getElem?_eq_some_iff.1 hv1).1
          have hjk : j * es + k = olds.length + ((j - xs.length) * es + k) := by
            have : (xs.length + (j - xs.length)) * es = j * es := by congr 1; omega
            rw [Nat.add_mul] at this
            rw [hosrc.size]
            omega
          refine ⟨v, ?_, hsrc.one v (List.mem_of_getElem? hv1), hv2⟩
          rw [Array.append_assoc, hjk, Array.getElem?_append_right (by simp), Array.getElem?_append_left (by simp; omega)]
          simpa using hv1) o.dst
    have hcs : (olds.toArray ++ news.toArray ++ Builtin.zeroCells z.cells (grownCap w (xs.length + ys.length) cap (P.elem t) - (xs.length + ys.length))).size = grownCap w (xs.length + ys.length) cap (P.elem t) * es := by
      simp only [Array.size_append, List.size_toArray, hosrc.size, hsrc.size, size_zeroCells, hzs, ← Nat.add_mul]
      congr 1
      omega
    have hfin := hown rfl hcs
    rw [hlen] at hfin
    refine wp_val (hexec _ _ (by rw [hv]; exact hr)) (hK g' _ _ (hbase hrel (fun m hm => ?_) hfin hd))
    have hsl2 := (hrel.arg hx)
    obtain ⟨tt, htt⟩ := hsl2
    rw [hX] at htt
    have hr2 := htt.sl_inv.rd
    generalize a.eval x' = vv at hr2 ⊢
    cases hr2 with
    | sl _ _ _ base' cap' u' h1 h2 h3 h4 h5 h6 h7 => exact .sl .sh es xs _ _ u' h1 h2 (by simp) (by simp) h5 h6 h7
  -- nil, and nothing is appended
  have stay : a.eval x' = .slice none 0 0 → xs = [] → ys = [] → o.wp P a w next Q := fun hv hxs hys => by
    subst hxs; subst hys
    have hr := run_append_stay' (ty := o.type) hul hu hit hsz hsrc
    refine wp_val (hexec _ _ (by rw [hv]; exact hr)) (hK g _ _ (hbase h (fun m _ => by rw [hv]; exact .sl .sh es [] none 0 (fun _ _ => undef) (by simp) (by simp) (by simp) (by simp) (by simp) (by simp) (by simp)) (fun t _ => LocR.slot ⟨.sl .own es [] none 0 (fun _ _ => undef) (by simp) (by simp) (by simp) (by simp) (by simp) (by simp) (by simp), fun es' xs' he => ?_⟩) hd))
    exact .inl (by cases he; rfl)
  have nilcase : a.eval x' = .slice none 0 0 → o.wp P a w next Q := fun hv => by
    have hxs : xs = [] := by
      generalize a.eval x' = vv at hrd hv
      cases hrd with
      | sl _ _ _ base cap u' h1 h2 h3 hnil h5 h6 h7 =>
        injection hv with e1 e2 e3
        exact List.eq_nil_of_length_eq_zero e2
    by_cases hys : ys = []
    · exact stay hv hxs hys
    · refine grow none 0 (by rw [hv, hxs]; rfl) ?_
      have : 0 < ys.length := List.length_pos_iff.2 hys
      omega
  rcases hp with rfl | rfl | ⟨rfl, hys⟩
  · cases x with
    | c c =>
      cases x' with
      | func f =>
        have hX' : c = .sl .own es xs := hX
        subst hX'
        cases hx
      | const v =>
        have hX' : c = .sl .own es xs := hX
        subst hX'
        refine nilcase ?_
        show v = _
        have hx2 : constOK (.sl .own es xs) v = true := hx
        unfold constOK at hx2
        split at hx2 <;> first | contradiction | rfl
      | _ => cases hx
    | t m =>
      have hxm := h.slots m
      have hX' : σ.get m = .sl .own es xs := hX
      rw [hX'] at hxm
      have hev : a.eval x' = a.tmps.getD m undef := by
        cases x' with
        | tmp m' => have := Nat.eq_of_beq_eq_true hx; subst this; rfl
        | _ => cases hx
      rcases hxm.sl_inv.2 es xs rfl with hv | ⟨blk, cap, cur, e', hv, hbl, how, hh, hcs, hI⟩
      · exact nilcase (by rw [hev]; exact hv)
      · rcases Nat.lt_or_ge cap (xs.length + ys.length) with hlt | hroom
        · exact grow _ cap (by rw [hev]; exact hv) hlt
        · have hrdm := hxm.sl_inv.rd
          rw [hv] at hrdm
          obtain ⟨olds, hosrc, _, hoes, holds⟩ := hrdm.first (P := P) h.ex
          have hbnd : xs.length * es + news.length ≤ cur.size := by
            rw [hsrc.size, hcs, ← Nat.add_mul]
            exact Nat.mul_le_mul_right _ hroom
          have hr := run_append_room' (ty := o.type) (t := t) (u := u) hul hu hit hsz hsrc hh hroom hbnd
          have hblt := heap_lt hh
          let cur' := (cur.toList.take (xs.length * es) ++ news ++ cur.toList.drop (xs.length * es + news.length)).toArray
          let w' := w.setRow blk cur'
          let dl : Loc := match o.dst with | some d => .slot d 0 | none => .none
          let g' : Gh := ⟨g.base, fun b k => g.I b k ∨ (b = blk ∧ xs.length * es ≤ k ∧ k < (xs.length + ys.length) * es), fun b => if g.ow b = .slot m 0 then dl else g.ow b, g.bx⟩
          have hother : ∀ c, c ≠ blk → w'.heap[c]? = w.heap[c]? := fun c hc => setRow_other w _ _ _ hc
          have hh' : w'.heap[blk]? = some (.cells cur' e' (0, 0)) := setRow_heap w blk cur _ e' _ hh
          have hsz' : cur'.size = cap * es := by
            simp only [cur', List.size_toArray, List.length_append, List.length_take, List.length_drop, Array.length_toList]
            omega
          have hget : ∀ k, cur'[k]? = if xs.length * es ≤ k ∧ k < xs.length * es + news.length then news[k - xs.length * es]? else cur[k]? := fun k => spliced_get cur news _ k hbnd
          have hsame : ∀ b k, g.I b k → w'.cell? ⟨b, k, none⟩ = w.cell? ⟨b, k, none⟩ := fun b k hi => by
            by_cases hb : b = blk
            · subst hb
              have hlt := (hI k).1 hi
              rw [cell_of_row w' _ _ _ e' _ hh', cell_of_row w _ _ _ e' _ hh, hget, if_neg (by omega)]
            · exact cell?_of_heap (hother b hb) k
          have hkeep : ∀ L, L ≠ .slot m 0 → Keep g w g' w' L := fun L hL => ⟨rfl, fun _ _ => rfl, fun _ _ hi => .inl hi, hsame, fun b hlt hb => by
            have hne : b ≠ blk := fun he => hL (by rw [← hb, he, how])
            refine ⟨?_, hother b hne, fun k hi => hi.resolve_right fun hx => hne hx.1⟩
            show (if g.ow b = .slot m 0 then dl else g.ow b) = L
            rw [if_neg (by rw [hb]; exact hL), hb], SzS.one hother fun cur2 e2 h2 => by
              rw [hh] at h2; cases h2
              exact ⟨_, hh', by rw [hsz', hcs]⟩⟩
          have hmono : ∀ c v, Rd g.I w c v → Rd g'.I w' c v := fun c v hr => hr.mono (fun _ _ hi => .inl hi) hsame
          have hnew : Rd g'.I w' (.sl .own es (xs ++ ys)) (.slice (some ⟨blk, 0, none⟩) (xs.length + ys.length) cap) := by
            have hcapm : cap ≤ maxLen := by
              cases hrdm with
              | sl _ _ _ _ _ _ _ hm _ _ _ _ _ => exact hm
            rw [← hlen]
            refine .sl .own es (xs ++ ys) _ cap (fun j k => (cur'[j * es + k]?).getD undef) (by omega) hcapm (by simp) (by simp) (fun y hy => by
              rcases List.mem_append.1 hy with hy | hy
              · exact hoes y hy
              · exact hyl y hy) (fun _ => ⟨blk, 0, rfl, fun j k y c hj hk => ?_⟩) fun j k y c hj hk => ?_
            all_goals
              have hyl' : y.length = es := by
                rcases List.mem_append.1 (List.mem_of_getElem? hj) with hy | hy
                · exact hoes y hy
                · exact hyl y hy
              have hkl : k < es := by have := (List.getElem?_eq_some_iff.1 hk).1; omega
              have hjl : j < xs.length + ys.length := by have := (List.getElem?_eq_some_iff.1 hj).1; rwa [hlen] at this
              have hlt : j * es + k < (xs.length + ys.length) * es := by
                have : (j + 1) * es ≤ (xs.length + ys.length) * es := Nat.mul_le_mul_right _ hjl
                rw [Nat.add_mul] at this
                omega
              have hval : ∃ v, cur'[j * es + k]? = some v ∧ v.oneCell' = true ∧ Rd g.I w c v := by
                by_cases hjx : j < xs.length
                · rw [List.getElem?_append_left hjx] at hj
                  have hlt2 : j * es + k < xs.length * es := by
                    have : (j + 1) * es ≤ xs.length * es := Nat.mul_le_mul_right _ hjx
                    rw [Nat.add_mul] at this
                    omega
                  cases hrdm with
                  | sl _ _ _ _ _ uu _ _ _ _ _ hb7 hr7 =>
                    obtain ⟨g7, o7, he7, hc7⟩ := hb7 (by intro hn; rw [hn] at hjx; simp at hjx)
                    cases he7
                    obtain ⟨_, h8, h9⟩ := hc7 _ _ _ _ hj hk
                    rw [Nat.zero_add, cell_of_row w _ _ _ e' _ hh] at h8
                    exact ⟨_, by rw [hget, if_neg (by omega)]; exact h8, h9, hr7 _ _ _ _ hj hk⟩
                · rw [List.getElem?_append_right (by omega)] at hj
                  obtain ⟨v, hv1, hv2⟩ := hnews _ _ _ _ hj hk
                  have hlt2 := (List.getElem?_eq_some_iff.1 hv1).1
                  have hjk : j * es + k = xs.length * es + ((j - xs.length) * es + k) := by
                    have : (xs.length + (j - xs.length)) * es = j * es := by congr 1; omega
                    rw [Nat.add_mul] at this
                    omega
                  refine ⟨v, ?_, hsrc.one v (List.mem_of_getElem? hv1), hv2⟩
                  rw [hget, if_pos (by omega), hjk, Nat.add_sub_cancel_left]
                  exact hv1
              obtain ⟨v, hv1, hv2, hv3⟩ := hval
            · refine ⟨?_, ?_, ?_⟩
              · rw [Nat.zero_add]
                rcases Nat.lt_or_ge (j * es + k) (xs.length * es) with hl | hl
                · exact .inl ((hI _).2 hl)
                · exact .inr ⟨rfl, hl, hlt⟩
              · rw [Nat.zero_add, cell_of_row w' _ _ _ e' _ hh', hv1]; rfl
              · rw [hv1]; exact hv2
            · rw [hv1]; exact hmono _ _ hv3
          refine wp_val (hexec _ _ (by rw [hev, hv]; exact hr)) (hK g' _ w' ?_)
          refine h.upd g' w' ⟨rfl, rfl, rfl, by simp [w'], fun c hc => hother c (by omega)⟩ rfl rfl (fun c k hc => ⟨fun hi => hi.resolve_right fun hx => by omega, .inl⟩) (fun b k hi => ?_) m (.sl .sh es xs) o.dst _ _ (hd m rfl)
            (fun t j ht _ => hkeep _ (by simp [ht])) (fun _ => hkeep _ (by simp)) (fun _ _ _ => hkeep _ (by simp)) ?_ (fun t ht => LocR.slot ⟨hnew, fun es' xs' he => ?_⟩) (.inr rfl) (by simp [AV.ref])
          · rcases hi with hi | ⟨rfl, h1, h2⟩
            · obtain ⟨u, hu⟩ := h.ex b k hi
              exact ⟨u, (hsame b k hi).trans hu⟩
            · have : k < cur'.size := by
                rw [hsz']
                have : (xs.length + ys.length) * es ≤ cap * es := Nat.mul_le_mul_right _ hroom
                omega
              exact ⟨cur'[k], by rw [cell_of_row w' _ _ _ e' _ hh']; exact Array.getElem?_eq_getElem _⟩
          · have := hmono _ _ hxm.sl_inv.rd
            generalize a.tmps.getD m undef = vv at this
            cases this with
            | sl _ _ _ base' cap' u' h1 h2 h3 h4 h5 h6 h7 => exact Rd.slots (.sl .sh es xs _ _ u' h1 h2 (by simp) (by simp) h5 h6 h7) (by simp) m
          · cases he
            refine .inr ⟨blk, cap, cur', e', by rw [hlen], hbl, ?_, hh', hsz', fun k => ⟨fun hi => ?_, fun hlt => ?_⟩⟩
            · show (if g.ow blk = .slot m 0 then dl else g.ow blk) = _
              rw [if_pos how]
              show (match o.dst with | some d => Loc.slot d 0 | none => .none) = _
              rw [ht]
            · rw [hlen]
              rcases hi with hi | hi
              · have := (hI k).1 hi
                have : xs.length * es ≤ (xs.length + ys.length) * es := Nat.mul_le_mul_right _ (by omega)
                omega
              · exact hi.2.2
            · rw [hlen] at hlt
              rcases Nat.lt_or_ge k (xs.length * es) with hl | hl
              · exact .inl ((hI k).2 hl)
              · exact .inr ⟨rfl, hl, hlt⟩
  · generalize hv : a.eval x' = v at hrd
    cases hrd with
    | sl _ _ _ base cap u' h1 h2 h3 hnil h5 h6 h7 =>
      obtain ⟨rfl, rfl⟩ := hnil rfl
      have hx0 : xs = [] := List.eq_nil_of_length_eq_zero (by omega)
      exact nilcase (by rw [hv, hx0]; rfl)
  · generalize hv : a.eval x' = v at hrd
    cases hrd with
    | sl _ _ _ base cap u' h1 h2 h3 hnil h5 h6 h7 =>
      have := h3 rfl
      have : 0 < ys.length := List.length_pos_iff.2 hys
      exact grow base cap hv (by omega)
end
end Go.Proofs.Ytfkihagcgjombaa

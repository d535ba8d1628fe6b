/- Stores into boxes, and what a box held taken out of it. No program's fact stands here. -/
import Derived.Test.YtfkihagcgjombaaAwA
namespace Go.Proofs.Ytfkihagcgjombaa
open Go.RowKit

section
variable {P : Program} {g : Gh} {w0 : World} {I0 : Cells} {σ : St} {a : Act} {w : World}

theorem setRow_inv {xs : List (List AV)} {i : Nat} {y : List AV} {K : List (List AV) → Prop} {one : Bool} (h : setRow xs i y K one) : K (xs.set i y) := by
  unfold setRow at h
  split at h
  · exact h
  · split at h
    · split at h
      · exact h
      · cases h
    · cases h

theorem spliced_get (cur : Array Value) (news : List Value) (s k : Nat) (hs : s + news.length ≤ cur.size) :
    (cur.toList.take s ++ news ++ cur.toList.drop (s + news.length)).toArray[k]? = if s ≤ k ∧ k < s + news.length then news[k - s]? else cur[k]? := by
  simp only [List.getElem?_toArray]
  have h1 : (cur.toList.take s).length = s := by simp; omega
  by_cases hk : k < s
  · rw [if_neg (by omega), List.append_assoc, List.getElem?_append_left (by omega), List.getElem?_take, if_pos hk]
    simp
  · by_cases hk2 : k < s + news.length
    · rw [if_pos (by omega), List.append_assoc, List.getElem?_append_right (by omega), List.getElem?_append_left (by omega), h1]
    · rw [if_neg (by omega), List.getElem?_append_right (by simp; omega), List.getElem?_drop]
      have : (cur.toList.take s ++ news).length = s + news.length := by rw [List.length_append, h1]
      rw [this, show s + news.length + (k - (s + news.length)) = k by omega]
      simp

theorem apart_rows {i j k es off n : Nat} (hij : j ≠ i) (hk : k < es) (hle : off + n ≤ es) : ¬ (i * es + off ≤ j * es + k ∧ j * es + k < i * es + off + n) := by
  rcases Nat.lt_or_ge j i with h | h
  · have : (j + 1) * es ≤ i * es := Nat.mul_le_mul_right _ h
    rw [Nat.add_mul] at this
    omega
  · have : (i + 1) * es ≤ j * es := Nat.mul_le_mul_right _ (by omega)
    rw [Nat.add_mul] at this
    omega

theorem Rel.storeBox (h : Rel g w0 I0 σ a w) {b : Nat} {one : Bool} {es : Nat} {xs : List (List AV)} (hb : σ.b[b]? = some (some ⟨one, es, xs⟩)) {i off : Nat} {y : List AV} (hy : xs[i]? = some y) (l : List AV) (news : List Value)
    (hn : l.length = news.length) (hle : off + l.length ≤ y.length) (hone : ∀ u ∈ news, u.oneCell' = true) (hloc : ∀ (k : Nat) c u, l[k]? = some c → news[k]? = some u → LocR g w (.cell b i (off + k)) c u) :
    ∃ cur e, w.heap[g.bx b]? = some (.cells cur e (0, 0)) ∧ i * es + off + news.length ≤ cur.size ∧
    Rel g w0 I0 (σ.setB (some (b, some ⟨one, es, xs.set i (putC y off l)⟩))) a (w.setRow (g.bx b) (cur.toList.take (i * es + off) ++ news ++ cur.toList.drop (i * es + off + news.length)).toArray) := by
  obtain ⟨cur, e, hh, hbase, how, hsz, hnI, hlen, hcells⟩ := (h.boxes b _ hb).row hy
  simp only at hsz hlen hcells
  have hyl : y.length = es := hlen y (List.mem_of_getElem? hy)
  have hi : i < xs.length := (List.getElem?_eq_some_iff.1 hy).1
  have hfit : i * es + off + news.length ≤ cur.size := by
    have : (i + 1) * es ≤ xs.length * es := Nat.mul_le_mul_right _ hi
    rw [Nat.add_mul] at this
    omega
  have hother : ∀ c, c ≠ g.bx b → (w.setRow (g.bx b) (cur.toList.take (i * es + off) ++ news ++ cur.toList.drop (i * es + off + news.length)).toArray).heap[c]? = w.heap[c]? := fun c hc => setRow_other w _ _ _ hc
  have hIne : ∀ c o, g.I c o → c ≠ g.bx b := fun c o hc he => hnI o (he ▸ hc)
  have hkeep : ∀ L, L ≠ .box b → Keep g w g (w.setRow (g.bx b) (cur.toList.take (i * es + off) ++ news ++ cur.toList.drop (i * es + off + news.length)).toArray) L := fun L hL =>
    ⟨rfl, fun _ _ => rfl, fun _ _ h => h, fun c o hc => cell?_of_heap (hother c (hIne c o hc)) o, fun c hlt hc => ⟨hc, hother c (fun he => hL (by rw [← hc, he, how])), fun _ h => h⟩, SzS.one hother fun cur2 e2 h2 => by
      rw [hh] at h2; cases h2
      exact ⟨_, setRow_heap w (g.bx b) _ _ _ _ hh, by simp only [List.size_toArray, List.length_append, List.length_take, List.length_drop, Array.length_toList]; omega⟩⟩
  refine ⟨cur, e, hh, hfit, h.boxed g _ b _ (List.getElem?_eq_some_iff.1 hb).1 ⟨rfl, rfl, rfl, by simp, fun k hk => hother k (by omega)⟩ rfl rfl (fun c o hc => ?_) (fun _ _ => rfl) (fun L _ hL _ => hkeep L hL) ?_ (.inr ⟨rfl, fun h => h⟩)⟩
  · obtain ⟨u, hu⟩ := h.ex c o hc
    exact ⟨u, (cell?_of_heap (hother c (hIne c o hc)) o).trans hu⟩
  · have hlt := heap_lt hh
    refine .inr ⟨_, e, setRow_heap w (g.bx b) cur _ e _ hh, hbase, how, ?_, hnI, fun x hx => ?_, fun j k x c hj hk => ?_⟩
    · simp only [List.size_toArray, List.length_append, List.length_take, List.length_drop, Array.length_toList, List.length_set]
      omega
    · rcases List.mem_or_eq_of_mem_set hx with hx | rfl
      · exact hlen x hx
      · rw [putC_length]; exact hyl
    · simp only at hj ⊢
      rw [List.getElem?_set] at hj
      rw [spliced_get cur news _ _ hfit]
      split at hj
      · rename_i hij
        subst hij
        try rw [if_pos hi] at hj
        cases hj
        have hkl : k < y.length := by have := (List.getElem?_eq_some_iff.1 hk).1; rwa [putC_length] at this
        rw [putC_get] at hk
        by_cases hin : off ≤ k ∧ k < off + l.length
        · rw [if_pos ⟨hin.1, hin.2, hkl⟩] at hk
          rw [if_pos (by omega), show i * es + k - (i * es + off) = k - off by omega]
          have hku : news[k - off]? = some (news[k - off]'(by omega)) := List.getElem?_eq_getElem _
          have hl := hloc (k - off) c _ hk hku
          rw [show off + (k - off) = k by omega] at hl
          exact ⟨_, hku, hone _ (List.getElem_mem _), hl.keep (hkeep _ (by simp))⟩
        · rw [if_neg (by omega)] at hk
          rw [if_neg (by omega)]
          obtain ⟨u, hu, h1, h2⟩ := hcells _ _ _ _ hy hk
          exact ⟨u, hu, h1, h2.keep (hkeep _ (by simp))⟩
      · rename_i hij
        have hxl : x.length = es := hlen x (List.mem_of_getElem? hj)
        have hkl : k < es := by have := (List.getElem?_eq_some_iff.1 hk).1; omega
        rw [if_neg (apart_rows (Ne.symm hij) hkl (by omega))]
        obtain ⟨u, hu, h1, h2⟩ := hcells _ _ _ _ hj hk
        exact ⟨u, hu, h1, h2.keep (hkeep _ (by simp))⟩

theorem run_storeVar_at {t : TypeId} {n : Nat} (ht : sizeT P t n = true) {b off : Nat} {v : Value} (hv : v.cells.size = n) {cur : Array Value} {e : TypeId} (hh : w.heap[b]? = some (.cells cur e (0, 0))) (hfit : off + n ≤ cur.size) (h1 : ∀ u ∈ v.cells, u.oneCell' = true) :
    (storeVar t ⟨b, off, none⟩ v).run P w = .ok () (w.setRow b (cur.toList.take off ++ v.cells.toList ++ cur.toList.drop (off + v.cells.toList.length)).toArray) := by
  have := run_storeCells_at P b off e v.cells.toList 0 cur w hh (by simp; omega) (by simpa using h1)
  simp only [Nat.add_zero] at this
  simp only [storeVar, Sem.run_bind, sizeT_run ht, Result.andThen_ok, hv, ne_eq, not_true_eq_false, if_false, Sem.run_ite]
  simpa using this

theorem snd_st (h : Rel g w0 I0 σ a w) {o : Oper} {t : TypeId} {n : Nat} {p x : Arg} {p' x' : Operand} (ho : o.op = .store t p' x') (ht : sizeT P t n = true) (hd : o.dst = none) (hp : chkArg p p' = true) (hx : chkArg x x' = true) {K : Cont}
    {G : Goods} (hs : (AOp.st n p x).sem G σ.get σ.b K) : Told P w0 I0 σ a w o K := by
  intro next Q hK
  obtain ⟨tp, hp'⟩ := h.arg hp
  obtain ⟨tx, hx'⟩ := h.arg hx
  simp only [AOp.sem] at hs
  generalize hPP : p.ev σ.get = PP at hs hp'
  generalize hX : x.ev σ.get = X at hs hx'
  split at hs
  · rename_i b es i off
    split at hs
    · rename_i one es' xs hb
      split at hs
      · rename_i hee
        subst hee
        split at hs
        · cases hs
        · rename_i y hy
          have key : X.plain = true → X.cells.length = n → off + X.cells.length ≤ y.length → K .top none (some (b, some ⟨one, es, xs.set i (putC y off (X.cells.map AV.up))⟩)) → o.wp P a w next Q := fun hpl hl hle hk => by
            have hrd := (plain_inv hpl hx').rd
            obtain ⟨h1, h2, h3⟩ := cells_rd hpl hrd
            obtain ⟨cur, e, hh, hfit, hrel⟩ := h.storeBox (off := off) hb hy (X.cells.map AV.up) (a.eval x').cells.toList (by simpa using h1) (by simpa using hle) (by simpa using h2) (fun k c u hk hu => by
              rw [List.getElem?_map] at hk
              obtain ⟨c', hc', rfl⟩ := Option.map_eq_some_iff.1 hk
              exact up_loc (h3 k c' u hc' (by simpa using hu)) _)
            have hst := run_storeVar_at (P := P) ht (v := a.eval x') (b := g.bx b) (off := i * es + off) (by omega) hh (by simp at hfit; omega) h2
            have hpv : a.eval p' = .pointer (some ⟨g.bx b, i * es + off, none⟩) := hp'
            unfold Oper.wp
            simp only [execOp, ho, hpv, Instr.storeAt, Instr.sureAddr, pure_bind, Sem.run_bind, hst, Result.andThen_ok, Sem.run_pure, Oper.upon]
            have := hK _ _ _ hk g (a.put o.dst undef) _ (by
              rw [hd]
              exact hrel)
            exact this
          cases X with
          | agg cs =>
            simp only at hs
            split at hs
            · rename_i e1 e2
              rw [frcL_eq] at hs
              exact key rfl (Nat.eq_of_beq_eq_true e1) (Nat.le_of_ble_eq_true e2) (setRow_inv hs)
            · cases hs
          | bool v =>
            simp only at hs
            split at hs
            · rename_i e1 e2
              rw [frcL_eq] at hs
              exact key rfl (Nat.eq_of_beq_eq_true e1) (Nat.le_of_ble_eq_true e2) (setRow_inv hs)
            · cases hs
          | int k v =>
            simp only at hs
            split at hs
            · rename_i e1 e2
              rw [frcL_eq] at hs
              exact key rfl (Nat.eq_of_beq_eq_true e1) (Nat.le_of_ble_eq_true e2) (setRow_inv hs)
            · cases hs
          | str v =>
            simp only at hs
            split at hs
            · rename_i e1 e2
              rw [frcL_eq] at hs
              exact key rfl (Nat.eq_of_beq_eq_true e1) (Nat.le_of_ble_eq_true e2) (setRow_inv hs)
            · cases hs
          | sl pp ee v =>
            simp only at hs
            split at hs
            · rename_i e1 e2
              rw [frcL_eq] at hs
              exact key rfl (Nat.eq_of_beq_eq_true e1) (Nat.le_of_ble_eq_true e2) (setRow_inv hs)
            · cases hs
          | _ => cases hs
      · cases hs
    · cases hs
  · cases hs

theorem snd_stt (h : Rel g w0 I0 σ a w) {o : Oper} {t : TypeId} {n : Nat} {p : Arg} {p' : Operand} (ho : o.op = .store t p' (.tmp n)) (ht : sizeT P t 1 = true) (hd : o.dst = none) (hp : chkArg p p' = true) {K : Cont}
    {G : Goods} (hs : (AOp.stt p n).sem G σ.get σ.b K) : Told P w0 I0 σ a w o K := by
  intro next Q hK
  obtain ⟨tp, hp'⟩ := h.arg hp
  simp only [AOp.sem] at hs
  generalize hPP : p.ev σ.get = PP at hs hp'
  split at hs
  · rename_i b es i off
    split at hs
    · rename_i one es' xs hb
      split at hs
      · rename_i hee
        subst hee
        split at hs
        · cases hs
        · rename_i y hy
          split at hs
          · rename_i p0 es0 xs0 hX
            split at hs
            · rename_i hlt
              rw [frcL_eq] at hs
              have hk := setRow_inv hs
              have hx' := h.slots n
              rw [hX] at hx'
              let f : Loc → Loc := fun L => if L = .slot n 0 then .cell b i off else L
              have hmv := h.move f n ((AV.sl p0 es0 xs0).share) none .top undef (by simp) (fun t j ht _ => by simp [f, ht]) (fun _ => by simp [f]) (fun _ _ _ => by simp [f])
                (by have := SlotR.cpy_ren (f := f) hx' (fun _ => by simp [f]) n; exact this) (fun t ht => by cases ht) (.inr (by rw [AV.ref_share]; rfl)) (fun b hb => by cases hb)
              have hmv' : Rel (g.ren f) w0 I0 (σ.setO (some (n, (AV.sl p0 es0 xs0).share))) a w := hmv
              have hloc : LocR (g.ren f) w (.cell b i off) (.sl p0 es0 xs0) (a.tmps.getD n undef) := LocR.ren hx' (by simp [f])
              have hb' : (σ.setO (some (n, (AV.sl p0 es0 xs0).share))).b[b]? = some (some ⟨one, es, xs⟩) := by rw [St.b_setO]; exact hb
              have hcell1 : (a.tmps.getD n undef).oneCell' = true ∧ (a.tmps.getD n undef).cells = #[a.tmps.getD n undef] := by
                have hr := hx'.sl_inv.rd
                generalize a.tmps.getD n undef = v at hr
                cases hr
                exact ⟨rfl, rfl⟩
              obtain ⟨cur, e, hh, hfit, hrel⟩ := hmv'.storeBox (off := off) hb' hy [.sl p0 es0 xs0] [a.tmps.getD n undef] rfl (by simp; omega) (fun u hu => by rw [List.mem_singleton.1 hu]; exact hcell1.1) (fun k c u hk hu => by
                cases k with
                | zero => cases hk; cases hu; exact hloc
                | succ k => simp at hk)
              have hst := run_storeVar_at (P := P) ht (v := a.tmps.getD n undef) (b := g.bx b) (off := i * es + off) (by rw [hcell1.2]; rfl) hh (by simpa using hfit) (fun u hu => by rw [hcell1.2] at hu; rw [show u = a.tmps.getD n undef from by simpa using hu]; exact hcell1.1)
              have hpv : a.eval p' = .pointer (some ⟨g.bx b, i * es + off, none⟩) := hp'
              have hxv : a.eval (.tmp n) = a.tmps.getD n undef := rfl
              unfold Oper.wp
              simp only [execOp, ho, hpv, hxv, Instr.storeAt, Instr.sureAddr, pure_bind, Sem.run_bind, hst, Result.andThen_ok, Sem.run_pure, Oper.upon]
              refine hK _ _ _ hk (g.ren f) (a.put o.dst undef) _ ?_
              rw [hd]
              have e1 : putC y off [.sl p0 es0 xs0] = y.set off (.sl p0 es0 xs0) := rfl
              rw [e1] at hrel
              rw [hcell1.2]
              exact hrel
            · cases hs
          · cases hs
      · cases hs
    · cases hs
  · cases hs

theorem snd_ldt (h : Rel g w0 I0 σ a w) {o : Oper} {t : TypeId} {p : Arg} {p' : Operand} (ho : o.op = .load t p') (ht : leafT P t = true) (hp : chkArg p p' = true) {K : Cont}
    {G : Goods} (hs : (AOp.ldt p).sem G σ.get σ.b K) : Told P w0 I0 σ a w o K := by
  intro next Q hK
  obtain ⟨tp, hp'⟩ := h.arg hp
  simp only [AOp.sem] at hs
  generalize hPP : p.ev σ.get = PP at hs hp'
  split at hs
  · rename_i b es i off
    split at hs
    · rename_i one es' xs hb
      split at hs
      · rename_i hee
        subst hee
        split at hs
        · cases hs
        · rename_i y hy
          split at hs
          · cases hs
          · rename_i c hc
            rw [frcL_eq] at hs
            have hk := setRow_inv hs
            obtain ⟨cur, e, hh, hbase, how, hsz, hnI, hlen, hcells⟩ := (h.boxes b _ hb).row hy
            simp only at hsz hlen hcells
            obtain ⟨u, hu, h1, h2⟩ := hcells _ _ _ _ hy hc
            have hpv : a.eval p' = .pointer (some ⟨g.bx b, i * es + off, none⟩) := hp'
            have hrun : (execOp a.eval o).run P w = .ok (.value u) w := by
              have := run_loadVar_leaf (P := P) (w := w) (ad := ⟨g.bx b, i * es + off, none⟩) ht (by rw [cell_of_row w _ _ cur e (0, 0) hh]; exact hu)
              simp only [execOp, ho, hpv, Instr.loadAt, Instr.sureAddr, pure_bind]
              rw [Sem.run_bind, this]
              rfl
            let f : Loc → Loc := fun L => if L = .cell b i off then (match o.dst with | some d => .slot d 0 | none => .none) else L
            have hkeep : ∀ L, L ≠ .cell b i off → Keep g w (g.ren f) w L := fun L hL => g.ren_keep w f L (by simp [f, hL])
            have hrel := h.boxed (g.ren f) w b ⟨one, es, xs.set i (y.set off c.share)⟩ (List.getElem?_eq_some_iff.1 hb).1 (Below.refl _ _) rfl rfl h.ex (fun _ _ => rfl) (fun L _ _ hL => hkeep L (hL i off))
              (.inr ⟨cur, e, hh, hbase, by show f (g.ow (g.bx b)) = _; rw [how]; simp [f], by simpa using hsz, hnI, fun x hx => by
                  rcases List.mem_or_eq_of_mem_set hx with hx | rfl
                  · exact hlen x hx
                  · rw [List.length_set]; exact hlen y (List.mem_of_getElem? hy), fun j k x c' hj hk' => by
                  simp only at hj
                  rw [List.getElem?_set] at hj
                  split at hj
                  · rename_i hij
                    subst hij
                    try rw [if_pos (List.getElem?_eq_some_iff.1 hy).1] at hj
                    cases hj
                    rw [List.getElem?_set] at hk'
                    split at hk'
                    · rename_i hok
                      subst hok
                      try rw [if_pos (List.getElem?_eq_some_iff.1 hc).1] at hk'
                      cases hk'
                      exact ⟨u, hu, h1, h2.1.share, fun es xs he => absurd he (share_not_own _ _ _)⟩
                    · rename_i hok
                      obtain ⟨u', hu', h3, h4⟩ := hcells _ _ _ _ hy hk'
                      exact ⟨u', hu', h3, h4.keep (hkeep _ (by simp; exact fun he => hok he.symm))⟩
                  · rename_i hij
                    obtain ⟨u', hu', h3, h4⟩ := hcells _ _ _ _ hj hk'
                    exact ⟨u', hu', h3, h4.keep (hkeep _ (by simp; exact fun he => absurd he.symm hij))⟩⟩) (.inr ⟨rfl, fun hq => ⟨hq.1, by show f (g.ow (g.bx b)) = _; rw [hq.2.1]; simp [f], hq.2.2⟩⟩)
            refine wp_val hrun (hK _ _ _ hk (g.ren f) _ _ (hrel.put o.dst c u (fun t ht => (LocR.ren h2 (by simp [f, ht])).slot) (fun b' hb' => by rw [h2.rd.ref] at hb'; cases hb')))
      · cases hs
    · cases hs
  · cases hs
end
end Go.Proofs.Ytfkihagcgjombaa

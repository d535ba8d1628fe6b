/- What is the call's own moves; boxes are made, read and written. No program's fact stands here. -/
import Derived.Test.YtfkihagcgjombaaAw8
namespace Go.Proofs.Ytfkihagcgjombaa
open Go.RowKit

section
variable {P : Program} {g : Gh} {w0 : World} {I0 : Cells} {σ : St} {a : Act} {w : World}

/-- what belonged to L belongs to f L -/
def Gh.ren (g : Gh) (f : Loc → Loc) : Gh := ⟨g.base, g.I, fun b => f (g.ow b), g.bx⟩

theorem Gh.ren_keep (g : Gh) (w : World) (f : Loc → Loc) (L : Loc) (h : f L = L) : Keep g w (g.ren f) w L :=
  ⟨rfl, fun _ _ => rfl, fun _ _ h => h, fun _ _ _ => rfl, fun b _ hb => ⟨by show f (g.ow b) = L; rw [hb, h], rfl, fun _ h => h⟩, SzS.refl _⟩
theorem LocR.ren {f : Loc → Loc} {L L' : Loc} {x : AV} {v : Value} (h : LocR g w L x v) (hf : f L = L') : LocR (g.ren f) w L' x v := by
  refine ⟨h.1, fun es xs he => ?_⟩
  rcases h.2 es xs he with hn | ⟨blk, cap, cur, e, h1, h2, h3, h4⟩
  · exact .inl hn
  · exact .inr ⟨blk, cap, cur, e, h1, h2, by show f (g.ow blk) = L'; rw [h3, hf], h4⟩
theorem SlotR.ren {f : Loc → Loc} {n d : Nat} {x : AV} {v : Value} (h : SlotR g w n x v) (hf : ∀ j, f (.slot n j) = .slot d j) (hfb : ∀ b, f (.box b) = .box b) : SlotR (g.ren f) w d x v := by
  cases x with
  | ptr => exact h
  | eptr => exact h
  | bsl b es off len =>
    rcases h with ⟨cap, h1, h2, h3, h4, h5, h6, h7⟩ | h
    · exact .inl ⟨cap, h1, h2, h3, h4, h5, by show f (g.ow (g.bx b)) = _; rw [h6, hfb], h7⟩
    · exact .inr h
  | tuple vs =>
    obtain ⟨us, hv, hl, hc⟩ := h
    exact ⟨us, hv, hl, fun j c u h1 h2 => (hc j c u h1 h2).ren (hf j)⟩
  | mp m =>
    obtain ⟨r, h1, h2, h3, h4⟩ := h
    exact ⟨r, h1, h2, by show f (g.ow r) = _; rw [h3, hf], h4⟩
  | top => exact SlotR.top _ _ _ _
  | bool b => exact LocR.ren (L' := .slot d 0) h (hf 0)
  | int k n => exact LocR.ren (L' := .slot d 0) h (hf 0)
  | str s => exact LocR.ren (L' := .slot d 0) h (hf 0)
  | sl p es xs => exact LocR.ren (L' := .slot d 0) h (hf 0)
  | agg cs => exact LocR.ren (L' := .slot d 0) h (hf 0)
  | fn f => exact LocR.ren (L' := .slot d 0) h (hf 0)

theorem setO_get (σ : St) (n : Nat) (x : AV) (u : Nat) : (σ.setO (some (n, x))).get u = if n = u ∧ n < σ.v.length then x else σ.get u := St.get_set σ n u x

/-- one temporary is changed, another one is written, and the memory; what all others have stays -/
theorem Rel.upd (h : Rel g w0 I0 σ a w) (g' : Gh) (w' : World) (hbelow : Below g.base w w') (hbase : g'.base = g.base) (hbx : g'.bx = g.bx) (hold : ∀ b o, b < g.base → (g'.I b o ↔ g.I b o)) (hex : ∀ b o, g'.I b o → ∃ u, w'.cell? ⟨b, o, none⟩ = some u) (n : Nat) (x : AV) (d : Option Nat) (y : AV) (v : Value) (hd : d ≠ some n)
    (hf : ∀ t j, t ≠ n → d ≠ some t → Keep g w g' w' (.slot t j)) (hb : ∀ b, Keep g w g' w' (.box b)) (hc : ∀ b i k, Keep g w g' w' (.cell b i k))
    (hn : SlotR g' w' n x (a.tmps.getD n undef)) (hv : ∀ t, d = some t → SlotR g' w' t y v)
    (hrx : x.ref = (σ.get n).ref ∨ x.ref = none) (hry : ∀ b, y.ref = some b → ∃ z, σ.b[b]? = some (some z)) :
    Rel g' w0 I0 (σ.app d y (some (n, x)) none) (a.put d v) w' := by
  have hlen := h.len
  refine ⟨by rw [hbase]; exact h.below.trans hbelow, by rw [hbase]; exact h.size, fun c o hc => (hold c o (by rw [← hbase]; exact hc)).trans (h.old c o (by rw [← hbase]; exact hc)), hex, by rw [put_defers]; exact h.defers, ?_, fun t => ?_, fun b z hb' => ?_, fun t b hb' => ?_⟩
  · rw [put_size]
    show _ = (((σ.setO (some (n, x))).setB none).setD d y).v.length
    rw [St.len_setD, St.v_setB]
    show _ = (σ.set n x).v.length
    rw [St.len_set]
    exact hlen
  · have key : SlotR g' w' t ((σ.setO (some (n, x))).get t) (a.tmps.getD t undef) ∨ d = some t := by
      by_cases hdt : d = some t
      · exact .inr hdt
      · left
        rw [setO_get]
        split
        · rename_i hnt
          obtain ⟨rfl, _⟩ := hnt
          exact hn
        · rename_i hnt
          by_cases hnt' : n = t
          · subst hnt'
            have : ¬ n < σ.v.length := fun hlt => hnt ⟨rfl, hlt⟩
            have : σ.get n = .top := by unfold St.get; simp [List.getElem?_eq_none (Nat.le_of_not_lt this)]
            rw [this]
            exact SlotR.top _ _ _ _
          · exact (h.slots t).keep (fun j => hf t j (Ne.symm hnt') hdt) (fun b _ => by rw [hbx]) (fun b _ hlt => (hb b).ob hlt)
    cases d with
    | none =>
      rcases key with key | key
      · exact key
      · cases key
    | some d =>
      rw [put_get]
      show SlotR _ _ _ (((σ.setO (some (n, x))).set d y).get t) _
      rw [St.get_set]
      have hl2 : (σ.setO (some (n, x))).v.length = σ.v.length := St.len_set σ n x
      rw [hl2]
      by_cases hdt : d = t ∧ d < σ.v.length
      · rw [if_pos hdt, if_pos (by omega)]
        obtain ⟨rfl, _⟩ := hdt
        exact hv _ rfl
      · rw [if_neg hdt, if_neg (by omega)]
        rcases key with key | key
        · exact key
        · cases key
          have : ¬ t < σ.v.length := fun hlt => hdt ⟨rfl, hlt⟩
          have : (σ.setO (some (n, x))).get t = .top := by
            unfold St.get
            rw [List.getD_eq_getElem?_getD, List.getElem?_eq_none (by rw [hl2]; omega)]
            rfl
          rw [this]
          exact SlotR.top _ _ _ _
  · have hb2 : σ.b[b]? = some (some z) := by
      have : (σ.app d y (some (n, x)) none).b = σ.b := by
        show (((σ.setO (some (n, x))).setB none).setD d y).b = σ.b
        rw [St.b_setD]
        rfl
      rw [this] at hb'
      exact hb'
    exact (h.boxes b z hb2).keep (hb b) (fun i k => hc b i k)
  · have hbb : (σ.app d y (some (n, x)) none).b = σ.b := by
      show (((σ.setO (some (n, x))).setB none).setD d y).b = σ.b
      rw [St.b_setD]
      rfl
    rw [hbb]
    have hx2 : ((σ.setO (some (n, x))).get t).ref = some b → ∃ z, σ.b[b]? = some (some z) := fun hr => by
      rw [setO_get] at hr
      split at hr
      · rcases hrx with hrx | hrx
        · rw [hrx] at hr; exact h.refs n b hr
        · rw [hrx] at hr; cases hr
      · exact h.refs t b hr
    cases d with
    | none => exact hx2 hb'
    | some d =>
      have hb3 : (((σ.setO (some (n, x))).set d y).get t).ref = some b := hb'
      rw [St.get_set] at hb3
      split at hb3
      · exact hry b hb3
      · exact hx2 hb3

/-- one temporary is changed, another one is written; who owns what is told anew -/
theorem Rel.move (h : Rel g w0 I0 σ a w) (f : Loc → Loc) (n : Nat) (x : AV) (d : Option Nat) (y : AV) (v : Value) (hd : d ≠ some n)
    (hf : ∀ t j, t ≠ n → d ≠ some t → f (.slot t j) = .slot t j) (hb : ∀ b, f (.box b) = .box b) (hc : ∀ b i k, f (.cell b i k) = .cell b i k)
    (hn : SlotR (g.ren f) w n x (a.tmps.getD n undef)) (hv : ∀ t, d = some t → SlotR (g.ren f) w t y v)
    (hrx : x.ref = (σ.get n).ref ∨ x.ref = none) (hry : ∀ b, y.ref = some b → ∃ z, σ.b[b]? = some (some z)) :
    Rel (g.ren f) w0 I0 (σ.app d y (some (n, x)) none) (a.put d v) w :=
  h.upd (g.ren f) w (Below.refl _ _) rfl rfl (fun _ _ _ => Iff.rfl) h.ex n x d y v hd (fun t j h1 h2 => g.ren_keep w f _ (hf t j h1 h2)) (fun b => g.ren_keep w f _ (hb b)) (fun b i k => g.ren_keep w f _ (hc b i k)) hn hv hrx hry

theorem SlotR.cpy_ren {f : Loc → Loc} {n : Nat} {x : AV} {v : Value} (h : SlotR g w n x v) (hfb : ∀ b, f (.box b) = .box b) (u : Nat) : SlotR (g.ren f) w u x.cpy v := by
  have h1 : SlotR (g.ren fun L => match L with | .slot _ j => .slot u j | L => L) w u x v := SlotR.ren h (fun _ => rfl) (fun _ => rfl)
  have h2 := h1.cpy (u := u)
  revert h2
  generalize hx : x.cpy = y
  intro h2
  cases y with
  | ptr => exact h2
  | eptr => exact h2
  | bsl b es off len =>
    rcases h2 with ⟨cap, h1, h2, h3, h4, h5, h6, h7⟩ | h
    · exact .inl ⟨cap, h1, h2, h3, h4, h5, by
        show f (g.ow (g.bx b)) = _
        have h6' : (match g.ow (g.bx b) with | .slot _ j => Loc.slot u j | L => L) = .box b := h6
        cases hq : g.ow (g.bx b) <;> rw [hq] at h6' <;> first | (cases h6'; exact hfb _) | (cases h6'), h7⟩
    · exact .inr h
  | tuple vs =>
    obtain ⟨us, hv, hl, hc⟩ := h2
    refine ⟨us, hv, hl, fun j c u' h1 h2 => ⟨(hc j c u' h1 h2).1, fun es xs he => ?_⟩⟩
    exfalso
    cases x with
    | tuple ws =>
      cases hx
      rw [List.getElem?_map] at h1
      obtain ⟨c', _, rfl⟩ := Option.map_eq_some_iff.1 h1
      exact share_not_own _ _ _ he
    | sl p es xs => cases p <;> simp [AV.cpy, AV.share] at hx
    | _ => simp [AV.cpy, AV.share] at hx
  | top => exact SlotR.top _ _ _ _
  | bool b => exact ⟨h2.1, fun es xs he => by cases he⟩
  | int k n => exact ⟨h2.1, fun es xs he => by cases he⟩
  | str s => exact ⟨h2.1, fun es xs he => by cases he⟩
  | agg cs => exact ⟨h2.1, fun es xs he => by cases he⟩
  | fn f => exact ⟨h2.1, fun es xs he => by cases he⟩
  | mp f =>
    exfalso
    cases x with
    | sl p es xs => cases p <;> simp [AV.cpy, AV.share] at hx
    | _ => simp [AV.cpy, AV.share] at hx
  | sl p es xs =>
    refine ⟨h2.1, fun es' xs' he => ?_⟩
    exfalso
    cases he
    cases x with
    | sl p es xs => exact share_not_own _ _ _ hx
    | _ => simp [AV.cpy, AV.share] at hx

theorem snd_tk (h : Rel g w0 I0 σ a w) {o : Oper} {n : Nat} (ho : o.op = .move (.tmp n) ∨ o.op = .assign (.tmp n)) (hd : o.dst ≠ some n) {K : Cont}
    {G : Goods} (hs : (AOp.tk n).sem G σ.get σ.b K) : Told P w0 I0 σ a w o K := by
  intro next Q hK
  have hrun : (execOp a.eval o).run P w = .ok (.value (a.tmps.getD n undef)) w := by rcases ho with ho | ho <;> simp [execOp, ho, Act.eval]
  refine wp_val hrun (hK _ _ _ hs (g.ren fun L => match L with | .slot t j => if t = n then (match o.dst with | some d => .slot d j | none => .none) else .slot t j | L => L) _ _ ?_)
  refine h.move _ n _ _ _ _ hd (fun t j ht _ => by simp [ht]) (fun _ => rfl) (fun _ _ _ => rfl) ((h.slots n).cpy_ren (fun _ => rfl) n) (fun t ht => (h.slots n).ren (fun j => by simp [ht]) (fun _ => rfl)) (.inl (AV.ref_cpy _)) (h.refs n)

theorem snd_extt (h : Rel g w0 I0 σ a w) {o : Oper} {n i : Nat} (ho : o.op = .extract (.tmp n) i) (hd : o.dst ≠ some n) {K : Cont}
    {G : Goods} (hs : (AOp.extt n i).sem G σ.get σ.b K) : Told P w0 I0 σ a w o K := by
  intro next Q hK
  simp only [AOp.sem] at hs
  split at hs
  · rename_i vs hvs
    split at hs
    · cases hs
    · rename_i c hc
      have hx := h.slots n
      rw [hvs] at hx
      obtain ⟨us, hv, hl, hcs⟩ := hx
      have hlt : i < vs.length := (List.getElem?_eq_some_iff.1 hc).1
      have hui : us[i]? = some us[i] := List.getElem?_eq_getElem (by omega)
      have hr := hcs _ _ _ hc hui
      have hrun : (execOp a.eval o).run P w = .ok (.value us[i]) w := by simp only [execOp, ho, Act.eval, hv]; simp [Instr.extract, hui]
      refine wp_val hrun (hK _ _ _ hs (g.ren fun L => if L = .slot n i then (match o.dst with | some d => .slot d 0 | none => .none) else L) _ _ ?_)
      refine h.move _ n _ _ _ _ hd (fun t j ht _ => by simp [ht]) (fun _ => by simp) (fun _ _ _ => by simp) ?_ (fun t ht => ?_) (.inr rfl) (fun b hb => by rw [hr.rd.ref] at hb; cases hb)
      · refine ⟨us, hv, by simpa using hl, fun j c' u hj hu => ?_⟩
        rw [List.getElem?_set] at hj
        split at hj
        · rename_i hij
          subst hij
          cases hj
          rw [hui] at hu; cases hu
          exact ⟨hr.1.share, fun es xs he => absurd he (share_not_own _ _ _)⟩
        · rename_i hij
          exact (hcs _ _ _ hj hu).keep (g.ren_keep w _ _ (by simp; intro he; exact absurd he.symm hij))
      · exact (hr.ren (by simp [ht])).slot
  · cases hs
end
end Go.Proofs.Ytfkihagcgjombaa

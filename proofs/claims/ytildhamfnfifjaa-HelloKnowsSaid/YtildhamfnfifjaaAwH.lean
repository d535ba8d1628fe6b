/- Regions: in the order of the text, and in whatever order. No program's fact stands here. -/
import Derived.Test.YtildhamfnfifjaaAwG
namespace Go.Proofs.Ytildhamfnfifjaa
open Go.RowKit

section
variable {P : Program} {g : Gh} {w0 : World} {I0 : Cells} {σ : St} {a : Act} {w : World}

def chkGuard (ops : Array Oper) : Option (Nat × Bool) → Option (Nat × Bool) → Bool
  | none, none => true
  | some (t, b), some (j, c) => (b == c) && (match ops[j]? with | some o => (match o.dst with | some d => Nat.beq d t | none => false) | none => false)
  | _, _ => false
def chkDst : Option Nat → Option Nat → Bool
  | none, none => true
  | some a, some b => Nat.beq a b
  | _, _ => false
theorem chkDst_inv : ∀ {x y : Option Nat}, chkDst x y = true → x = y
  | none, none, _ => rfl
  | some a, some b, h => by rw [Nat.eq_of_beq_eq_true h]
  | none, some _, h => by cases h
  | some _, none, h => by cases h
def chkOper (P : Program) (ops : Array Oper) (ao : AOper) (o : Oper) : Bool := chkDst ao.dst o.dst && chkGuard ops ao.guard o.guard && chkOp P ao.op o
def chkOpers (P : Program) (ops : Array Oper) : List AOper → List Oper → Bool
  | [], [] => true
  | x :: xs, o :: os => chkOper P ops x o && chkOpers P ops xs os
  | _, _ => false

theorem SlotR.undef (t : Nat) : SlotR g w t (.tuple []) undef := ⟨[], rfl, rfl, fun j c u h => by simp at h⟩

/-- one operation, its guard and all -/
theorem oper_told (h : Rel g w0 I0 σ a w) {ops : Array Oper} {ao : AOper} {o : Oper} (hc : chkOper P ops ao o = true) {i : Nat} (hi : ops[i]? = some o) {G : Goods} (hG : ∀ f xs r, G f xs r → Good P f xs r) {K : St → Prop} (hs : ao.ev G σ K)
    {next : Act → World → Prop} {Q : Exit → Act → World → Prop} (hK : ∀ σ', K σ' → ∀ g' a' w', Rel g' w0 I0 σ' a' w' → next a' w') : wpOp P ops Q i next a w := by
  unfold wpOp
  rw [hi]
  simp only [chkOper, Bool.and_eq_true] at hc
  obtain ⟨⟨hd, hg⟩, ho⟩ := hc
  have hd := chkDst_inv hd
  have run : ao.op.sem G σ.get σ.b (σ.next ao.dst K) → o.wp P a w next Q := fun hs =>
    sem_told h ho hG hs next Q fun v ts bx hk g' a' w' hr => by
      rw [St.next_eq] at hk
      rw [hd] at hk
      exact hK _ hk g' a' w' hr
  have skip : K (σ.setD ao.dst (.tuple [])) → next (a.put o.dst undef) w := fun hk => by
    rw [hd] at hk
    exact hK _ hk g _ _ (h.put o.dst (.tuple []) undef (fun t _ => SlotR.undef t) (by simp [AV.ref]))
  unfold AOper.ev at hs
  split at hs
  · rename_i hgn
    rw [hgn] at hg
    cases hog : o.guard with
    | some x => rw [hog] at hg; simp [chkGuard] at hg
    | none =>
      simp only [Region.wanted, hog, if_true]
      exact .inl (run hs)
  · rename_i t want hgn
    rw [hgn] at hg
    cases hog : o.guard with
    | none => rw [hog] at hg; simp [chkGuard] at hg
    | some x =>
      obtain ⟨j, c⟩ := x
      rw [hog] at hg
      simp only [chkGuard, Bool.and_eq_true, beq_iff_eq] at hg
      obtain ⟨rfl, hg⟩ := hg
      split at hg
      · rename_i oj hoj
        split at hg
        · rename_i d hdj
          have := Nat.eq_of_beq_eq_true hg
          subst this
          have hy : yielded ops a.tmps j = match a.tmps[d]? with | some (.bool b) => some b | _ => none := by
            simp only [yielded, hoj, Option.bind_some, hdj]
            rfl
          have hsl := h.slots d
          split at hs
          · rename_i b hb
            rw [hb] at hsl
            have hv := hsl.bool_inv
            have hb2 : yielded ops a.tmps j = some b := by
              rw [hy]
              rw [Array.getD_eq_getD_getElem?] at hv
              cases hq : a.tmps[d]? with
              | none => rw [hq] at hv; cases hv
              | some q => rw [hq] at hv; cases hv; rfl
            simp only [Region.wanted, hog, hb2]
            split at hs
            · simp only [beq_self_eq_true, if_true]; exact .inl (run hs)
            · simp only [beq_self_eq_true, if_true]; exact .inl (run hs)
            · rename_i h1 h2
              have : (some b == some want) = false := by
                cases b <;> cases want <;> first | rfl | exact (h1 rfl rfl).elim | exact (h2 rfl rfl).elim
              rw [this]
              simp only [Bool.false_eq_true, if_false]
              rw [frc_eq, frcB_eq] at hs
              exact skip (by rw [show σ.setD ao.dst (.tuple []) = ⟨(σ.setD ao.dst (.tuple [])).v, σ.b⟩ by cases ao.dst <;> rfl]; exact hs)
          · rename_i vs hb
            rw [hb] at hsl
            obtain ⟨us, hv, _⟩ := hsl
            have hb2 : yielded ops a.tmps j = none := by
              rw [hy]
              rw [Array.getD_eq_getD_getElem?] at hv
              cases hq : a.tmps[d]? with
              | none => rfl
              | some q => rw [hq] at hv; simp at hv; subst hv; rfl
            simp only [Region.wanted, hog, hb2]
            have : ((none : Option Bool) == some want) = false := rfl
            rw [this]
            simp only [Bool.false_eq_true, if_false]
            rw [frc_eq, frcB_eq] at hs
            exact skip (by rw [show σ.setD ao.dst (.tuple []) = ⟨(σ.setD ao.dst (.tuple [])).v, σ.b⟩ by cases ao.dst <;> rfl]; exact hs)
          · exact hs.elim
        · cases hg
      · cases hg

theorem chkOpers_get {ops : Array Oper} : ∀ {xs : List AOper} {os : List Oper}, chkOpers P ops xs os = true → xs.length = os.length ∧ ∀ (i : Nat) x o, xs[i]? = some x → os[i]? = some o → chkOper P ops x o = true
  | [], [], _ => ⟨rfl, fun i x o h => by simp at h⟩
  | [], _ :: _, h => by cases h
  | _ :: _, [], h => by cases h
  | x :: xs, o :: os, h => by
    simp only [chkOpers, Bool.and_eq_true] at h
    obtain ⟨h1, h2⟩ := chkOpers_get h.2
    refine ⟨by simp [h1], fun i y p hy hp => ?_⟩
    cases i with
    | zero => cases hy; cases hp; exact h.1
    | succ i => exact h2 i y p (by simpa using hy) (by simpa using hp)

/-- a region in the order of the text -/
theorem reg_told {ops : Array Oper} {G : Goods} (hG : ∀ f xs r, G f xs r → Good P f xs r) {Q : Exit → Act → World → Prop} {K : St → Prop} (hK : ∀ σ', K σ' → ∀ g' a' w', Rel g' w0 I0 σ' a' w' → Q .normal a' w') :
    ∀ (xs : List AOper) (k : Nat) (g : Gh) (σ : St) (a : Act) (w : World), (∀ (i : Nat) x, xs[i]? = some x → ∃ o, ops[k + i]? = some o ∧ chkOper P ops x o = true) → Rel g w0 I0 σ a w → evOps G xs σ K →
      wpOps P ops Q (List.range' k xs.length) a w
  | [], k, g, σ, a, w, _, h, hs => hK σ hs g a w h
  | x :: xs, k, g, σ, a, w, hc, h, hs => by
    obtain ⟨o, ho, hco⟩ := hc 0 x rfl
    simp only [List.length_cons, List.range'_succ]
    rw [wpOps_cons]
    refine oper_told h hco (by simpa using ho) hG hs fun σ' hk g' a' w' hr => ?_
    exact reg_told hG hK xs (k + 1) g' σ' a' w' (fun i y hy => by
      obtain ⟨o', ho', hc'⟩ := hc (i + 1) y hy
      exact ⟨o', by rw [← ho']; congr 1; omega, hc'⟩) hr hk

/-! regions whose order is open -/
def AOper.temps (o : AOper) : List Nat := o.op.temps ++ (match o.guard with | some (t, _) => [t] | none => [])
/-- one step -/
def Stp (G : Goods) (o : AOper) (σ σ' : St) : Prop := o.ev G σ (· = σ')

theorem setD_get_ne (σ : St) (d : Option Nat) (x : AV) (t : Nat) (h : d ≠ some t) : (σ.setD d x).get t = σ.get t := by
  cases d with
  | none => rfl
  | some d =>
    show (σ.set d x).get t = _
    rw [St.get_set, if_neg (fun hh => h (by rw [hh.1]))]

/-- what a step leaves hangs on what it looks at alone -/
theorem AOper.local (G : Goods) (o : AOper) (hd : o.op.dOK = true) {σ : St} {K : St → Prop} (h : o.ev G σ K) :
    ∃ x bx, (o.op.wrB = false → bx = none) ∧ K ((σ.setB bx).setD o.dst x) ∧
      ∀ τ : St, (∀ t ∈ o.temps, τ.get t = σ.get t) → (o.op.rdB = true → τ.b = σ.b) → ∀ K' : St → Prop, K' ((τ.setB bx).setD o.dst x) → o.ev G τ K' := by
  have run : ∀ {K : St → Prop}, o.op.sem G σ.get σ.b (σ.next o.dst K) → (∀ (τ : St) (K' : St → Prop), o.op.sem G τ.get τ.b (τ.next o.dst K') → (∀ t ∈ o.temps, τ.get t = σ.get t) → o.ev G τ K') →
      ∃ x bx, (o.op.wrB = false → bx = none) ∧ K ((σ.setB bx).setD o.dst x) ∧ ∀ τ : St, (∀ t ∈ o.temps, τ.get t = σ.get t) → (o.op.rdB = true → τ.b = σ.b) → ∀ K' : St → Prop, K' ((τ.setB bx).setD o.dst x) → o.ev G τ K' := fun {K} hs hev => by
    obtain ⟨v, bx, h1, h2, h3⟩ := sem_dec G o.op hd hs
    rw [St.next_eq] at h2
    refine ⟨v, bx, h3, h2, fun τ ht hb K' hk => hev τ K' ?_ ht⟩
    rw [sem_congr G o.op hd (g' := σ.get) (bs' := σ.b) (fun t htt => ht t (List.mem_append_left _ htt)) hb]
    exact h1 _ (by rw [St.next_eq]; exact hk)
  unfold AOper.ev at h
  split at h
  · rename_i hgn
    exact run h fun τ K' hs _ => by unfold AOper.ev; rw [hgn]; exact hs
  · rename_i t want hgn
    have hmem : t ∈ o.temps := by simp [AOper.temps, hgn]
    have skip : ∀ K : St → Prop, frc (σ.setD o.dst (.tuple [])).v (fun vl => frcB σ.b fun bl => K ⟨vl, bl⟩) → (∀ (τ : St) (K' : St → Prop), τ.get t = σ.get t → frc (τ.setD o.dst (.tuple [])).v (fun vl => frcB τ.b fun bl => K' ⟨vl, bl⟩) → o.ev G τ K') →
        ∃ x bx, (o.op.wrB = false → bx = none) ∧ K ((σ.setB bx).setD o.dst x) ∧ ∀ τ : St, (∀ t ∈ o.temps, τ.get t = σ.get t) → (o.op.rdB = true → τ.b = σ.b) → ∀ K' : St → Prop, K' ((τ.setB bx).setD o.dst x) → o.ev G τ K' := fun K hs hev => by
      rw [frc_eq, frcB_eq] at hs
      have e : ∀ τ : St, (⟨(τ.setD o.dst (.tuple [])).v, τ.b⟩ : St) = τ.setD o.dst (.tuple []) := fun τ => by cases o.dst <;> rfl
      rw [e] at hs
      refine ⟨.tuple [], none, fun _ => rfl, hs, fun τ ht _ K' hk => hev τ K' (ht t hmem) ?_⟩
      rw [frc_eq, frcB_eq, e]
      exact hk
    split at h
    · rename_i b hb
      split at h
      · exact run h fun τ K' hs ht => by unfold AOper.ev; rw [hgn]; simp only [ht t hmem, hb]; exact hs
      · exact run h fun τ K' hs ht => by unfold AOper.ev; rw [hgn]; simp only [ht t hmem, hb]; exact hs
      · rename_i h1 h2
        refine skip K h fun τ K' ht hs => ?_
        unfold AOper.ev
        rw [hgn]
        simp only [ht, hb]
        cases b <;> cases want <;> first | exact hs | exact (h1 rfl rfl).elim | exact (h2 rfl rfl).elim
    · rename_i vs hb
      refine skip K h fun τ K' ht hs => ?_
      unfold AOper.ev
      rw [hgn]
      simp only [ht, hb]
      exact hs
    · exact h.elim

/-- two steps that do not look at one another -/
def indep (x y : AOper) : Bool :=
  (match x.dst with | some d => !y.temps.contains d && (match y.dst with | some e => !Nat.beq d e | none => true) | none => true) &&
  (match y.dst with | some d => !x.temps.contains d | none => true) &&
  !(x.op.wrB && y.op.rdB) && !(x.op.rdB && y.op.wrB)
theorem indep_inv {x y : AOper} (h : indep x y = true) : (∀ t ∈ y.temps, x.dst ≠ some t) ∧ (∀ t ∈ x.temps, y.dst ≠ some t) ∧ (∀ t, x.dst = some t → y.dst ≠ some t) ∧ (x.op.wrB = true → y.op.rdB = false) ∧ (y.op.wrB = true → x.op.rdB = false) := by
  simp only [indep, Bool.and_eq_true, Bool.not_eq_true'] at h
  obtain ⟨⟨⟨h1, h2⟩, h3⟩, h4⟩ := h
  refine ⟨fun t ht hx => ?_, fun t ht hy => ?_, fun t hx hy => ?_, fun hw => ?_, fun hw => ?_⟩
  · rw [hx] at h1
    simp at h1
    exact h1.1 ht
  · rw [hy] at h2
    simp at h2
    exact h2 ht
  · rw [hx, hy] at h1
    simp at h1
  · rw [hw] at h3; simpa using h3
  · rw [hw] at h4; simpa using h4
theorem wr_rd (o : AOp) : o.wrB = true → o.rdB = true := by cases o <;> simp [AOp.wrB, AOp.rdB]

theorem set_comm (σ : St) (b c : Option (Nat × Option Box)) (d e : Option Nat) (x y : AV) (hde : ∀ t, d = some t → e ≠ some t) (hbc : b = none ∨ c = none) :
    ((((σ.setB b).setD d x).setB c).setD e y) = ((((σ.setB c).setD e y).setB b).setD d x) := by
  obtain ⟨v, bb⟩ := σ
  have hv : ∀ (l : List AV), (match e with | some e => (match d with | some d => l.set d x | none => l).set e y | none => (match d with | some d => l.set d x | none => l)) = (match d with | some d => (match e with | some e => l.set e y | none => l).set d x | none => (match e with | some e => l.set e y | none => l)) := fun l => by
    cases d with
    | none => cases e <;> rfl
    | some d =>
      cases e with
      | none => rfl
      | some e => exact List.set_comm _ _ (fun he => hde d rfl (by rw [he]))
  rcases hbc with rfl | rfl
  · cases d <;> cases e <;> cases c <;> first | rfl | (have := hv v; simp only at this; simp only [St.setB, St.setD, St.set, this])
  · cases d <;> cases e <;> cases b <;> first | rfl | (have := hv v; simp only at this; simp only [St.setB, St.setD, St.set, this])

/-- the diamond -/
theorem swap (G : Goods) {x y : AOper} (hx : x.op.dOK = true) (hy : y.op.dOK = true) (hi : indep x y = true) {σ : St} {K : St → Prop} (h : x.ev G σ fun σ1 => y.ev G σ1 K) : y.ev G σ fun σ2 => x.ev G σ2 K := by
  obtain ⟨h1, h2, h3, h4, h5⟩ := indep_inv hi
  obtain ⟨v, bx, hbx, hy1, hx1⟩ := AOper.local G x hx h
  obtain ⟨u, by', hby, hk, hy2⟩ := AOper.local G y hy hy1
  have hone : bx = none ∨ by' = none := by
    cases hw : x.op.wrB with
    | false => exact .inl (hbx hw)
    | true =>
      right
      apply hby
      have := h4 hw
      cases hwy : y.op.wrB with
      | false => rfl
      | true => have := wr_rd _ hwy; simp_all
  refine hy2 σ (fun t ht => ?_) (fun hr => ?_) _ (hx1 _ (fun t ht => ?_) (fun hr => ?_) _ ?_)
  · rw [setD_get_ne _ _ _ _ (h1 t ht), St.get_setB]
  · have hb : bx = none := hbx (by cases hw : x.op.wrB with | false => rfl | true => have := h4 hw; simp_all)
    rw [St.b_setD, hb]
    rfl
  · rw [setD_get_ne _ _ _ _ (h2 t ht), St.get_setB]
  · have hb : by' = none := hby (by cases hw : y.op.wrB with | false => rfl | true => have := h5 hw; simp_all)
    rw [St.b_setD, hb]
    rfl
  · rw [← set_comm σ bx by' x.dst y.dst v u h3 hone]
    exact hk

/-- one that all before it do not look at may come first -/
theorem bring (G : Goods) {x : AOper} (hx : x.op.dOK = true) : ∀ (pre : List AOper) (post : List AOper), (∀ y ∈ pre, y.op.dOK = true ∧ indep y x = true) → ∀ {σ : St} {K : St → Prop}, evOps G (pre ++ x :: post) σ K → x.ev G σ fun σ' => evOps G (pre ++ post) σ' K
  | [], post, _, σ, K, h => h
  | y :: pre, post, hp, σ, K, h => by
    have hy := hp y (by simp)
    refine swap G hy.1 hx hy.2 ?_
    have h' : y.ev G σ fun σ' => evOps G (pre ++ x :: post) σ' K := h
    obtain ⟨v, bx, _, hk, hl⟩ := AOper.local G y hy.1 h'
    exact hl σ (fun _ _ => rfl) (fun _ => rfl) _ (bring G hx pre post (fun z hz => hp z (by simp [hz])) hk)
end
end Go.Proofs.Ytildhamfnfifjaa

/- Regions: in the order of the text, and in whatever order. No program's fact stands here. -/
import Derived.Test.YtfkihagcgjombaaAwG
namespace Go.Proofs.Ytfkihagcgjombaa
open Go.RowKit

section
variable {P : Program} {g : Gh} {w0 : World} {I0 : Cells} {σ : St} {a : Act} {w : World}

def chkGuard (ops : Array Oper) : Option (Nat × Bool) → Option (Nat × Bool) → Bool
  | none, none => true
  | some (t, b), some (j, c) => (b == c) && (match ops[j]? with | some o => (match o.dst with | some d => Nat.beq d t | none => false) | none => false)
  | _, _ => false
def chkDst : Option Nat → Option Nat → Bool
  | none, none => true
  | some a, some b => Nat.beq a b
  | _, _ => false
theorem chkDst_inv : ∀ {x y : Option Nat}, chkDst x y = true → x = y
  | none, none, _ => rfl
  | some a, some b, h => by rw [Nat.eq_of_beq_eq_true h]
  | none, some _, h => by cases h
  | some _, none, h => by cases h
def chkOper (P : Program) (ops : Array Oper) (ao : AOper) (o : Oper) : Bool := chkDst ao.dst o.dst && chkGuard ops ao.guard o.guard && chkOp P ao.op o
def chkOpers (P : Program) (ops : Array Oper) : List AOper → List Oper → Bool
  | [], [] => true
  | x :: xs, o :: os => chkOper P ops x o && chkOpers P ops xs os
  | _, _ => false

theorem SlotR.undef (t : Nat) : SlotR g w t (.tuple []) undef := ⟨[], rfl, rfl, fun j c u h => by simp at h⟩

/-- one operation, its guard and all -/
theorem oper_told (h : Rel g w0 I0 σ a w) {ops : Array Oper} {ao : AOper} {o : Oper} (hc : chkOper P ops ao o = true) {i : Nat} (hi : ops[i]? = some o) {G : Goods} (hG : ∀ f xs r, G f xs r → Good P f xs r) {K : St → Prop} (hs : ao.ev G σ K)
    {next : Act → World → Prop} {Q : Exit → Act → World → Prop} (hK : ∀ σ', K σ' → ∀ g' a' w', Rel g' w0 I0 σ' a' w' → next a' w') : wpOp P ops Q i next a w := by
  unfold wpOp
  rw [hi]
  simp only [chkOper, Bool.and_eq_true] at hc
  obtain ⟨⟨hd, hg⟩, ho⟩ := hc
  have hd := chkDst_inv hd
  have run : ao.op.sem G σ.get σ.b (σ.next ao.dst K) → o.wp P a w next Q := fun hs =>
    sem_told h ho hG hs next Q fun v ts bx hk g' a' w' hr => by
      rw [St.next_eq] at hk
      rw [hd] at hk
      exact hK _ hk g' a' w' hr
  have skip : K (σ.setD ao.dst (.tuple [])) → next (a.put o.dst undef) w := fun hk => by
    rw [hd] at hk
    exact hK _ hk g _ _ (h.put o.dst (.tuple []) undef (fun t _ => SlotR.undef t) (by simp [AV.ref]))
  unfold AOper.ev at hs
  split at hs
  · rename_i hgn
    rw [hgn] at hg
    cases hog : o.guard with
    | some x => rw [hog] at hg; simp [chkGuard] at hg
    | none =>
      simp only [Region.wanted, hog, if_true]
      exact .inl (run hs)
  · rename_i t want hgn
    rw [hgn] at hg
    cases hog : o.guard with
    | none => rw [hog] at hg; simp [chkGuard] at hg
    | some x =>
      obtain ⟨j, c⟩ := x
      rw [hog] at hg
      simp only [chkGuard, Bool.and_eq_true, beq_iff_eq] at hg
      obtain ⟨rfl, hg⟩ := hg
      split at hg
      · rename_i oj hoj
        split at hg
        · rename_i d hdj
          have := Nat.eq_of_beq_eq_true hg
          subst this
          have hy : yielded ops a.tmps j = match a.tmps[d]? with | some (.bool b) => some b | _ => none := by
            simp only [yielded, hoj, Option.bind_some, hdj]
            rfl
          have hsl := h.slots d
          split at hs
          · rename_i b hb
            rw [hb] at hsl
            have hv := hsl.bool_inv
            have hb2 : yielded ops a.tmps j = some b := by
              rw [hy]
              rw [Array.getD_eq_getD_getElem?] at hv
              cases hq : a.tmps[d]? with
              | none => rw [hq] at hv; cases hv
              | some q => rw [hq] at hv; cases hv; rfl
            simp only [Region.wanted, hog, hb2]
            by_cases hbw : b = want
            · subst hbw
              have hs := hs.1 rfl
              rw [frc_eq, St.set_self hb] at hs
              simp only [beq_self_eq_true, if_true]; exact .inl (run hs)
            · have hbn : b = (!want) := by cases b <;> cases want <;> simp at hbw ⊢
              have hs := hs.2 hbn
              have : (some b == some want) = false := by
                cases b <;> cases want <;> first | rfl | exact (hbw rfl).elim
              rw [this]
              simp only [Bool.false_eq_true, if_false]
              rw [frc_eq, frcB_eq, St.set_self (by rw [hb, hbn])] at hs
              exact skip (by rw [show σ.setD ao.dst (.tuple []) = ⟨(σ.setD ao.dst (.tuple [])).v, σ.b⟩ by cases ao.dst <;> rfl]; exact hs)
          · rename_i vs hb
            rw [hb] at hsl
            obtain ⟨us, hv, _⟩ := hsl
            have hb2 : yielded ops a.tmps j = none := by
              rw [hy]
              rw [Array.getD_eq_getD_getElem?] at hv
              cases hq : a.tmps[d]? with
              | none => rfl
              | some q => rw [hq] at hv; simp at hv; subst hv; rfl
            simp only [Region.wanted, hog, hb2]
            have : ((none : Option Bool) == some want) = false := rfl
            rw [this]
            simp only [Bool.false_eq_true, if_false]
            rw [frc_eq, frcB_eq] at hs
            exact skip (by rw [show σ.setD ao.dst (.tuple []) = ⟨(σ.setD ao.dst (.tuple [])).v, σ.b⟩ by cases ao.dst <;> rfl]; exact hs)
          · exact hs.elim
        · cases hg
      · cases hg

theorem chkOpers_get {ops : Array Oper} : ∀ {xs : List AOper} {os : List Oper}, chkOpers P ops xs os = true → xs.length = os.length ∧ ∀ (i : Nat) x o, xs[i]? = some x → os[i]? = some o → chkOper P ops x o = true
  | [], [], _ => ⟨rfl, fun i x o h => by simp at h⟩
  | [], _ :: _, h => by cases h
  | _ :: _, [], h => by cases h
  | x :: xs, o :: os, h => by
    simp only [chkOpers, Bool.and_eq_true] at h
    obtain ⟨h1, h2⟩ := chkOpers_get h.2
    refine ⟨by simp [h1], fun i y p hy hp => ?_⟩
    cases i with
    | zero => cases hy; cases hp; exact h.1
    | succ i => exact h2 i y p (by simpa using hy) (by simpa using hp)

/-- a region in the order of the text -/
theorem reg_told {ops : Array Oper} {G : Goods} (hG : ∀ f xs r, G f xs r → Good P f xs r) {Q : Exit → Act → World → Prop} {K : St → Prop} (hK : ∀ σ', K σ' → ∀ g' a' w', Rel g' w0 I0 σ' a' w' → Q .normal a' w') :
    ∀ (xs : List AOper) (k : Nat) (g : Gh) (σ : St) (a : Act) (w : World), (∀ (i : Nat) x, xs[i]? = some x → ∃ o, ops[k + i]? = some o ∧ chkOper P ops x o = true) → Rel g w0 I0 σ a w → evOps G xs σ K →
      wpOps P ops Q (List.range' k xs.length) a w
  | [], k, g, σ, a, w, _, h, hs => hK σ hs g a w h
  | x :: xs, k, g, σ, a, w, hc, h, hs => by
    obtain ⟨o, ho, hco⟩ := hc 0 x rfl
    simp only [List.length_cons, List.range'_succ]
    rw [wpOps_cons]
    refine oper_told h hco (by simpa using ho) hG hs fun σ' hk g' a' w' hr => ?_
    exact reg_told hG hK xs (k + 1) g' σ' a' w' (fun i y hy => by
      obtain ⟨o', ho', hc'⟩ := hc (i + 1) y hy
      exact ⟨o', by rw [← ho']; congr 1; omega, hc'⟩) hr hk

/-! regions whose order is open -/
def AOper.temps (o : AOper) : List Nat := o.op.temps ++ (match o.guard with | some (t, _) => [t] | none => [])
/-- one step -/
def Stp (G : Goods) (o : AOper) (σ σ' : St) : Prop := o.ev G σ (· = σ')

theorem setD_get_ne (σ : St) (d : Option Nat) (x : AV) (t : Nat) (h : d ≠ some t) : (σ.setD d x).get t = σ.get t := by
  cases d with
  | none => rfl
  | some d =>
    show (σ.set d x).get t = _
    rw [St.get_set, if_neg (fun hh => h (by rw [hh.1]))]

/-- a box laid anew: what looks at others may come ahead of it -/
def AOp.isA : AOp → Bool
  | .alloc .. => true
  | _ => false
def AOp.isL : AOp → Bool
  | .ld .. => true
  | _ => false
def AOp.dOK2 (o : AOp) : Bool := o.dOK || o.isA
def AOp.wrB2 (o : AOp) : Bool := o.wrB || o.isA
def AOp.rdB2 (o : AOp) : Bool := o.rdB || o.isA
/-- the boxes that were there are there still -/
def BExt (bs bs' : List (Option Box)) : Prop := ∀ (b : Nat) x, bs[b]? = some (some x) → bs'[b]? = some (some x)
/-- the box that it looks at -/
def AOp.pref (o : AOp) (g : Nat → AV) : Option Nat :=
  match o with
  | .ld _ p => (p.ev g).ref
  | .st _ p _ => (p.ev g).ref
  | .ldt p => (p.ev g).ref
  | .stt p _ => (p.ev g).ref
  | _ => none
def AOp.isS : AOp → Bool
  | .st .. => true
  | .ldt .. => true
  | .stt .. => true
  | _ => false
def AOp.ptr : AOp → Option Nat
  | .ld _ (.t a) => some a
  | .st _ (.t a) _ => some a
  | .ldt (.t a) => some a
  | .stt (.t a) _ => some a
  | _ => none
theorem AOp.ptr_pref {o : AOp} {a : Nat} (h : o.ptr = some a) (g : Nat → AV) : o.pref g = (g a).ref ∧ a ∈ o.temps := by
  unfold AOp.ptr at h
  split at h
  · cases h; exact ⟨rfl, by simp [AOp.temps, Arg.temps]⟩
  · cases h; exact ⟨rfl, by simp [AOp.temps, Arg.temps]⟩
  · cases h; exact ⟨rfl, by simp [AOp.temps, Arg.temps]⟩
  · cases h; exact ⟨rfl, by simp [AOp.temps, Arg.temps]⟩
  · cases h
/-- the box that it makes -/
def AOp.newB : AOp → Option Nat
  | .alloc b _ _ => some b
  | _ => none
def AOp.one (o : AOp) : Bool := o.isL || o.isS || o.isA
/-- the one box that it looks at, or makes -/
def AOp.bxOf (o : AOp) (g : Nat → AV) : Option Nat := match o.newB with | some b => some b | none => o.pref g
def Bok (o : AOp) (g : Nat → AV) (bs bs' : List (Option Box)) : Prop := if o.one = true then ∀ (b : Nat) x, o.bxOf g = some b → bs[b]? = some x → (o.isA = true ∨ x.isSome = true) → bs'[b]? = some x else bs = bs'
theorem Bok.of_eq {o : AOp} {g : Nat → AV} {bs bs' : List (Option Box)} (h : bs = bs') : Bok o g bs bs' := by
  subst h
  unfold Bok
  split
  · exact fun _ _ _ h _ => h
  · rfl
/-- what the region's head looked up: these point into different boxes -/
def Apart (ps : List (Nat × Nat)) (σ : St) : Prop := ∀ p ∈ ps, ∀ i, σ.refO p.1 = some i → σ.refO p.2 ≠ some i
theorem refO_lt {σ : St} {n : Nat} (h : Nat.ble 1000000 n = false) : σ.refO n = (σ.get n).ref := by unfold St.refO; rw [h]
theorem refO_congr {σ τ : St} {n : Nat} (h : τ.get n = σ.get n) : τ.refO n = σ.refO n := by unfold St.refO; rw [h]
theorem refO_ge {σ τ : St} {n : Nat} (h : Nat.ble 1000000 n = true) : τ.refO n = σ.refO n := by unfold St.refO; rw [h]
theorem refO_box {σ : St} (b : Nat) : σ.refO (1000000 + b) = some b := by
  unfold St.refO
  rw [Nat.ble_eq_true_of_le (Nat.le_add_right 1000000 b), Nat.add_sub_cancel_left]
theorem apart_inv {σ : St} : ∀ {ps : List (Nat × Nat)}, σ.apart ps = true → Apart ps σ
  | [], _, p, hp => by cases hp
  | (a, b) :: r, h, p, hp => by
    have key : σ.apart r = true ∧ ∀ i, σ.refO a = some i → σ.refO b ≠ some i := by
      unfold St.apart at h
      split at h
      · rename_i ha
        exact ⟨h, fun i hi => by rw [ha] at hi; cases hi⟩
      · rename_i i hi
        split at h
        · rename_i hb
          exact ⟨h, fun i _ => by rw [hb]; simp⟩
        · rename_i j hj
          split at h
          · cases h
          · rename_i hne
            refine ⟨h, fun i' hi' hj' => ?_⟩
            rw [hi] at hi'; rw [hj] at hj'
            cases hi'; cases hj'
            simp at hne
    rcases List.mem_cons.1 hp with rfl | hp
    · exact key.2
    · exact apart_inv key.1 p hp
/-- by which number the box that it looks at is told -/
def AOp.boxN (o : AOp) : Option Nat :=
  match o.newB with
  | some b => some (1000000 + b)
  | none => match o.ptr with
    | none => none
    | some a => match Nat.ble 1000000 a with
      | true => none
      | false => some a
theorem boxN_ref {o : AOp} {a b : Nat} {σ : St} (h : o.boxN = some a) {g : Nat → AV} (hg : ∀ t ∈ o.temps, g t = σ.get t) (hb : o.bxOf g = some b) : σ.refO a = some b := by
  unfold AOp.boxN at h
  unfold AOp.bxOf at hb
  split at h
  · rename_i c hc
    rw [hc] at hb
    cases h; cases hb
    exact refO_box _
  · rename_i hc
    rw [hc] at hb
    split at h
    · cases h
    · rename_i q hq
      split at h
      · cases h
      · rename_i hlt
        cases h
        obtain ⟨e1, e2⟩ := AOp.ptr_pref hq g
        simp only [e1] at hb
        rw [refO_lt hlt, ← hg _ e2]
        exact hb
def apartOp (ps : List (Nat × Nat)) (x y : AOp) : Bool :=
  match x.boxN with
  | none => false
  | some a => match y.boxN with
    | none => false
    | some b => ps.contains (a, b) || ps.contains (b, a)
theorem apart_ne {ps : List (Nat × Nat)} {x y : AOp} {σ : St} (h : apartOp ps x y = true) (hA : Apart ps σ) {g : Nat → AV} (hg : ∀ t ∈ y.temps, g t = σ.get t) {b c : Nat} (hb : x.bxOf σ.get = some b) (hc : y.bxOf g = some c) : b ≠ c := by
  unfold apartOp at h
  split at h
  · cases h
  · rename_i a ha
    split at h
    · cases h
    · rename_i a' ha'
      have hb := boxN_ref ha (fun _ _ => rfl) hb
      have hc := boxN_ref ha' hg hc
      rintro rfl
      simp only [Bool.or_eq_true, List.contains_iff_mem] at h
      rcases h with h | h
      · exact hA _ h _ hb hc
      · exact hA _ h _ hc hb
def setBs (bs : List (Option Box)) : Option (Nat × Option Box) → List (Option Box)
  | some (b, x) => bs.set b x
  | none => bs
theorem St.b_setB (σ : St) (x : Option (Nat × Option Box)) : (σ.setB x).b = setBs σ.b x := by
  cases x <;> rfl

/-- a store leaves its pointer's box anew -/
theorem st_out (G : Goods) {n : Nat} {p x : Arg} {g : Nat → AV} {bs : List (Option Box)} {K : Cont} (h : (AOp.st n p x).sem G g bs K) : ∃ c v z, (p.ev g).ref = some c ∧ K v none (some (c, z)) := by
  simp only [AOp.sem] at h
  split at h
  · rename_i hp
    split at h
    · split at h
      · split at h
        · exact h.elim
        · cases hX : x.ev g <;> simp only [hX] at h <;> first
            | exact h.elim
            | (split at h
               · rw [frcL_eq] at h
                 obtain ⟨h1, h2⟩ := setRow_dec h
                 exact ⟨_, _, _, by rw [hp]; rfl, h2⟩
               · exact h.elim)
      · exact h.elim
    · exact h.elim
  · exact h.elim
theorem ldt_out (G : Goods) {p : Arg} {g : Nat → AV} {bs : List (Option Box)} {K : Cont} (h : (AOp.ldt p).sem G g bs K) : ∃ c v z, (p.ev g).ref = some c ∧ K v none (some (c, z)) := by
  simp only [AOp.sem] at h
  split at h
  · rename_i hp
    split at h
    · split at h
      · split at h
        · exact h.elim
        · split at h
          · exact h.elim
          · rw [frcL_eq] at h
            obtain ⟨h1, h2⟩ := setRow_dec h
            exact ⟨_, _, _, by rw [hp]; rfl, h2⟩
      · exact h.elim
    · exact h.elim
  · exact h.elim
theorem stt_out (G : Goods) {p : Arg} {n : Nat} {g : Nat → AV} {bs : List (Option Box)} {K : Cont} (h : (AOp.stt p n).sem G g bs K) : ∃ c v ts z, (p.ev g).ref = some c ∧ K v ts (some (c, z)) := by
  simp only [AOp.sem] at h
  split at h
  · rename_i hp
    split at h
    · split at h
      · split at h
        · exact h.elim
        · split at h
          · split at h
            · rw [frcL_eq] at h
              obtain ⟨h1, h2⟩ := setRow_dec h
              exact ⟨_, _, _, _, by rw [hp]; rfl, h2⟩
            · exact h.elim
          · exact h.elim
      · exact h.elim
    · exact h.elim
  · exact h.elim
theorem sem_dec2 (G : Goods) (ao : AOp) (hd : ao.dOK2 = true) {g : Nat → AV} {bs : List (Option Box)} {K : Cont} (h : ao.sem G g bs K) :
    ∃ v ts bx, (∀ K' : Cont, K' v ts bx → ao.sem G g bs K') ∧ K v ts bx ∧ (ao.wrB2 = false → bx = none) ∧ (ao.isA = true → BExt bs (setBs bs bx)) ∧ (ao.isS = true ∨ ao.isA = true → ∃ c z, ao.bxOf g = some c ∧ bx = some (c, z)) ∧ (∀ n a, ts = some (n, a) → ao.mod = some n) ∧ (∀ so, ao.src = some so → v.ref = none ∨ ∃ s, so = some s ∧ v.ref = (g s).ref) ∧ (∀ b, ao.newB = some b → v.ref = none ∨ v.ref = some b) := by
  cases ha : ao.isA with
  | false =>
    obtain ⟨v, ts, bx, h1, h2, h3, h5, h6⟩ := sem_dec G ao (by simpa [AOp.dOK2, ha] using hd) h
    refine ⟨v, ts, bx, h1, h2, fun hw => h3 (by simpa [AOp.wrB2, ha] using hw), fun h => by (cases h), fun hS => ?_, h5, h6, fun b hb => by (cases ao <;> simp [AOp.newB] at hb; simp [AOp.isA] at ha)⟩
    have hS := hS.resolve_right (by simp [ha])
    have h4 := h1 (fun v' ts' bx' => v' = v ∧ ts' = ts ∧ bx' = bx) ⟨rfl, rfl, rfl⟩
    cases ao <;> simp only [AOp.isS, Bool.false_eq_true] at hS
    · obtain ⟨c, v', z, e1, e2⟩ := ldt_out G h4
      exact ⟨c, z, e1, e2.2.2.symm⟩
    · obtain ⟨c, v', z, e1, e2⟩ := st_out G h4
      exact ⟨c, z, e1, e2.2.2.symm⟩
    · obtain ⟨c, v', ts', z, e1, e2⟩ := stt_out G h4
      exact ⟨c, z, e1, e2.2.2.symm⟩
  | true =>
    cases ao <;> simp only [AOp.isA, Bool.false_eq_true] at ha
    rename_i b es zero
    simp only [AOp.sem] at h ⊢
    split at h
    · rename_i hb
      refine ⟨_, none, _, fun K' hk => hk, h, fun hw => by simp [AOp.wrB2, AOp.isA] at hw, fun _ c x hc => ?_, fun _ => ⟨b, _, rfl, rfl⟩, fun _ _ hh => by (cases hh), fun _ hs => by (simp [AOp.src] at hs), fun b' hb' => by (cases hb'; exact .inr rfl)⟩
      show (bs.set b _)[c]? = _
      rw [List.getElem?_set_ne]
      · exact hc
      · rintro rfl
        rw [hb] at hc
        cases hc
    · exact h.elim
theorem sem_ext (G : Goods) (ao : AOp) (hd : ao.dOK2 = true) {g g' : Nat → AV} {bs bs' : List (Option Box)} (h : ∀ t ∈ ao.temps, g t = g' t) (hb : ao.rdB2 = true → Bok ao g bs bs') {K : Cont} (hs : ao.sem G g bs K) : ao.sem G g' bs' K := by
  cases ho : ao.one with
  | false =>
    rw [← sem_congr G ao (by simp only [AOp.one, Bool.or_eq_false_iff] at ho; simpa [AOp.dOK2, ho.2] using hd) h (fun hr => by simpa [Bok, ho] using hb (by simp [AOp.rdB2, hr]))]
    exact hs
  | true =>
    cases ao <;> simp only [AOp.one, AOp.isL, AOp.isS, AOp.isA, Bool.or_false, Bool.false_or, Bool.false_eq_true] at ho
    case alloc b es zero =>
      have he : ∀ x, bs[b]? = some x → bs'[b]? = some x := fun x hx => by
        have := hb (by simp [AOp.rdB2, AOp.isA])
        simp only [Bok, AOp.one, AOp.isA, Bool.or_true, if_true] at this
        exact this b x rfl hx (.inl trivial)
      simp only [AOp.sem] at hs ⊢
      split at hs
      · rename_i hb'
        rw [he _ hb']
        exact hs
      · exact hs.elim
    case ld n p =>
      have he : ∀ (b : Nat) x, (p.ev g).ref = some b → bs[b]? = some (some x) → bs'[b]? = some (some x) := fun b x hp hx => by
        have := hb (by simp [AOp.rdB2, AOp.rdB])
        simp only [Bok, AOp.one, AOp.isL, Bool.true_or, if_true] at this
        exact this b _ hp hx (.inr rfl)
      simp only [AOp.sem] at hs ⊢
      rw [← Arg.ev_congr (x := p) h]
      generalize p.ev g = pv at hs he ⊢
      cases pv with
      | ptr b es i off =>
        simp only at hs ⊢
        split at hs
        · rename_i heq
          rw [he _ _ rfl heq]
          exact hs
        · exact hs.elim
      | _ => exact hs
    case ldt p =>
      have he : ∀ (b : Nat) x, (p.ev g).ref = some b → bs[b]? = some (some x) → bs'[b]? = some (some x) := fun b x hp hx => by
        have := hb (by simp [AOp.rdB2, AOp.rdB])
        simp only [Bok, AOp.one, AOp.isS, Bool.true_or, Bool.or_true, if_true] at this
        exact this b _ hp hx (.inr rfl)
      simp only [AOp.sem] at hs ⊢
      rw [← Arg.ev_congr (x := p) h]
      generalize p.ev g = pv at hs he ⊢
      cases pv with
      | ptr b es i off =>
        simp only at hs ⊢
        split at hs
        · rename_i heq
          rw [he _ _ rfl heq]
          exact hs
        · exact hs.elim
      | _ => exact hs
    case st n p x =>
      have he : ∀ (b : Nat) x, (p.ev g).ref = some b → bs[b]? = some (some x) → bs'[b]? = some (some x) := fun b x hp hx => by
        have := hb (by simp [AOp.rdB2, AOp.rdB])
        simp only [Bok, AOp.one, AOp.isS, Bool.true_or, Bool.or_true, if_true] at this
        exact this b _ hp hx (.inr rfl)
      simp only [AOp.sem] at hs ⊢
      rw [← Arg.ev_congr (x := p) (fun t ht => h t (List.mem_append_left _ ht)), ← Arg.ev_congr (x := x) (fun t ht => h t (List.mem_append_right _ ht))]
      generalize p.ev g = pv at hs he ⊢
      cases pv with
      | ptr b es i off =>
        simp only at hs ⊢
        split at hs
        · rename_i heq
          rw [he _ _ rfl heq]
          exact hs
        · exact hs.elim
      | _ => exact hs
    case stt p n =>
      have he : ∀ (b : Nat) x, (p.ev g).ref = some b → bs[b]? = some (some x) → bs'[b]? = some (some x) := fun b x hp hx => by
        have := hb (by simp [AOp.rdB2, AOp.rdB])
        simp only [Bok, AOp.one, AOp.isS, Bool.true_or, Bool.or_true, if_true] at this
        exact this b _ hp hx (.inr rfl)
      simp only [AOp.sem] at hs ⊢
      rw [← Arg.ev_congr (x := p) (fun t ht => h t (List.mem_append_left _ ht)), ← h n (List.mem_append_right _ (List.mem_singleton.2 rfl))]
      generalize p.ev g = pv at hs he ⊢
      cases pv with
      | ptr b es i off =>
        simp only at hs ⊢
        split at hs
        · rename_i heq
          rw [he _ _ rfl heq]
          exact hs
        · exact hs.elim
      | _ => exact hs

/-- where what a step leaves points to -/
def SrcF (o : AOp) (σ : St) (x : AV) : Prop := (∀ so, o.src = some so → x.ref = none ∨ ∃ s, so = some s ∧ x.ref = (σ.get s).ref) ∧ (∀ b, o.newB = some b → x.ref = none ∨ x.ref = some b)
/-- what a step leaves hangs on what it looks at alone -/
theorem AOper.local (G : Goods) (o : AOper) (hd : o.op.dOK2 = true) {σ : St} {K : St → Prop} (h : o.ev G σ K) :
    ∃ x ts bx, SrcF o.op σ x ∧ (∀ n a, ts = some (n, a) → o.op.mod = some n) ∧ (o.op.wrB2 = false → bx = none) ∧ (o.op.isA = true → bx = none ∨ BExt σ.b (setBs σ.b bx)) ∧ (o.op.isS = true ∨ o.op.isA = true → bx = none ∨ ∃ c z, o.op.bxOf σ.get = some c ∧ bx = some (c, z)) ∧ K (σ.app o.dst x ts bx) ∧
      ∀ τ : St, (∀ t ∈ o.temps, τ.get t = σ.get t) → (o.op.rdB2 = true → Bok o.op σ.get σ.b τ.b) → ∀ K' : St → Prop, K' (τ.app o.dst x ts bx) → o.ev G τ K' := by
  have run : ∀ {K : St → Prop}, o.op.sem G σ.get σ.b (σ.next o.dst K) → (∀ (τ : St) (K' : St → Prop), o.op.sem G τ.get τ.b (τ.next o.dst K') → (∀ t ∈ o.temps, τ.get t = σ.get t) → o.ev G τ K') →
      ∃ x ts bx, SrcF o.op σ x ∧ (∀ n a, ts = some (n, a) → o.op.mod = some n) ∧ (o.op.wrB2 = false → bx = none) ∧ (o.op.isA = true → bx = none ∨ BExt σ.b (setBs σ.b bx)) ∧ (o.op.isS = true ∨ o.op.isA = true → bx = none ∨ ∃ c z, o.op.bxOf σ.get = some c ∧ bx = some (c, z)) ∧ K (σ.app o.dst x ts bx) ∧ ∀ τ : St, (∀ t ∈ o.temps, τ.get t = σ.get t) → (o.op.rdB2 = true → Bok o.op σ.get σ.b τ.b) → ∀ K' : St → Prop, K' (τ.app o.dst x ts bx) → o.ev G τ K' := fun {K} hs hev => by
    obtain ⟨v, ts, bx, h1, h2, h3, h4, h5, h6, h7⟩ := sem_dec2 G o.op hd hs
    rw [St.next_eq] at h2
    refine ⟨v, ts, bx, h7, h6, h3, fun ha => .inr (h4 ha), fun ha => .inr (h5 ha), h2, fun τ ht hb K' hk => hev τ K' ?_ ht⟩
    exact sem_ext G o.op hd (g := σ.get) (bs := σ.b) (fun t htt => (ht t (List.mem_append_left _ htt)).symm) hb (h1 _ (by rw [St.next_eq]; exact hk))
  unfold AOper.ev at h
  split at h
  · rename_i hgn
    exact run h fun τ K' hs _ => by unfold AOper.ev; rw [hgn]; exact hs
  · rename_i t want hgn
    have hmem : t ∈ o.temps := by simp [AOper.temps, hgn]
    have skip : ∀ K : St → Prop, frc (σ.setD o.dst (.tuple [])).v (fun vl => frcB σ.b fun bl => K ⟨vl, bl⟩) → (∀ (τ : St) (K' : St → Prop), τ.get t = σ.get t → frc (τ.setD o.dst (.tuple [])).v (fun vl => frcB τ.b fun bl => K' ⟨vl, bl⟩) → o.ev G τ K') →
        ∃ x ts bx, SrcF o.op σ x ∧ (∀ n a, ts = some (n, a) → o.op.mod = some n) ∧ (o.op.wrB2 = false → bx = none) ∧ (o.op.isA = true → bx = none ∨ BExt σ.b (setBs σ.b bx)) ∧ (o.op.isS = true ∨ o.op.isA = true → bx = none ∨ ∃ c z, o.op.bxOf σ.get = some c ∧ bx = some (c, z)) ∧ K (σ.app o.dst x ts bx) ∧ ∀ τ : St, (∀ t ∈ o.temps, τ.get t = σ.get t) → (o.op.rdB2 = true → Bok o.op σ.get σ.b τ.b) → ∀ K' : St → Prop, K' (τ.app o.dst x ts bx) → o.ev G τ K' := fun K hs hev => by
      rw [frc_eq, frcB_eq] at hs
      have e : ∀ τ : St, (⟨(τ.setD o.dst (.tuple [])).v, τ.b⟩ : St) = τ.setD o.dst (.tuple []) := fun τ => by cases o.dst <;> rfl
      rw [e] at hs
      refine ⟨.tuple [], none, none, ⟨fun _ _ => .inl rfl, fun _ _ => .inl rfl⟩, fun _ _ hh => by (cases hh), fun _ => rfl, fun _ => .inl rfl, fun _ => .inl rfl, hs, fun τ ht _ K' hk => hev τ K' (ht t hmem) ?_⟩
      rw [frc_eq, frcB_eq, e]
      exact hk
    split at h
    · rename_i b hb
      by_cases hbw : b = want
      · subst hbw
        have h := h.1 rfl
        rw [frc_eq, St.set_self hb] at h
        exact run h fun τ K' hs ht => by
          unfold AOper.ev; rw [hgn]; simp only [ht t hmem, hb]
          refine ⟨fun _ => ?_, fun hc => by cases b <;> cases hc⟩
          rw [frc_eq, St.set_self (by rw [ht t hmem, hb])]
          exact hs
      · have hbn : b = (!want) := by cases b <;> cases want <;> simp at hbw ⊢
        have h := h.2 hbn
        rw [St.set_self (by rw [hb, hbn])] at h
        refine skip K h fun τ K' ht hs => ?_
        unfold AOper.ev
        rw [hgn]
        simp only [ht, hb]
        refine ⟨fun hc => absurd hc hbw, fun _ => ?_⟩
        rw [St.set_self (by rw [ht, hb, hbn])]
        exact hs
    · rename_i vs hb
      refine skip K h fun τ K' ht hs => ?_
      unfold AOper.ev
      rw [hgn]
      simp only [ht, hb]
      exact hs
    · exact h.elim

/-- two steps that do not look at one another; y may come ahead of x -/
def indep (ps : List (Nat × Nat)) (x y : AOper) : Bool :=
  (match x.dst with | some d => !y.temps.contains d && (match y.dst with | some e => !Nat.beq d e | none => true) | none => true) &&
  (match y.dst with | some d => !x.temps.contains d | none => true) &&
  (match x.op.mod with | some d => !y.temps.contains d | none => true) && (match y.op.mod with | some d => !x.temps.contains d | none => true) &&
  (!(x.op.wrB2 && y.op.rdB2) || ((x.op.isS || x.op.isA) && (y.op.one && apartOp ps x.op y.op))) && (!(x.op.rdB2 && y.op.wrB2) || ((x.op.isL && y.op.isA) || (x.op.one && ((y.op.isS || y.op.isA) && apartOp ps x.op y.op))))
theorem indep_inv {ps : List (Nat × Nat)} {x y : AOper} (h : indep ps x y = true) : (∀ t ∈ y.temps, x.dst ≠ some t) ∧ (∀ t ∈ x.temps, y.dst ≠ some t) ∧ (∀ t, x.dst = some t → y.dst ≠ some t) ∧ (∀ t ∈ y.temps, x.op.mod ≠ some t) ∧ (∀ t ∈ x.temps, y.op.mod ≠ some t) ∧
    (x.op.wrB2 = true → y.op.rdB2 = false ∨ ((x.op.isS = true ∨ x.op.isA = true) ∧ y.op.one = true ∧ apartOp ps x.op y.op = true)) ∧ (y.op.wrB2 = true → x.op.rdB2 = false ∨ ((x.op.isL = true ∧ y.op.isA = true) ∨ (x.op.one = true ∧ (y.op.isS = true ∨ y.op.isA = true) ∧ apartOp ps x.op y.op = true))) := by
  simp only [indep, Bool.and_eq_true, Bool.or_eq_true, Bool.not_eq_true'] at h
  obtain ⟨⟨⟨⟨⟨h1, h2⟩, h5⟩, h6⟩, h3⟩, h4⟩ := h
  refine ⟨fun t ht hx => ?_, fun t ht hy => ?_, fun t hx hy => ?_, fun t ht hx => ?_, fun t ht hy => ?_, fun hw => ?_, fun hw => ?_⟩
  · rw [hx] at h1
    simp at h1
    exact h1.1 ht
  · rw [hy] at h2
    simp at h2
    exact h2 ht
  · rw [hx, hy] at h1
    simp at h1
  · rw [hx] at h5
    simp at h5
    exact h5 ht
  · rw [hy] at h6
    simp at h6
    exact h6 ht
  · rw [hw] at h3
    rcases h3 with h3 | h3
    · exact .inl (by simpa using h3)
    · exact .inr h3
  · rw [hw] at h4
    rcases h4 with h4 | h4
    · exact .inl (by simpa using h4)
    · exact .inr h4
theorem wr_rd (o : AOp) : o.wrB2 = true → o.rdB2 = true := by cases o <;> simp [AOp.wrB2, AOp.rdB2, AOp.wrB, AOp.rdB, AOp.isA]

def upds (d : Option Nat) (v : AV) (ts : Option (Nat × AV)) : List (Nat × AV) := (match ts with | some p => [p] | none => []) ++ (match d with | some d => [(d, v)] | none => [])
def setsL (us : List (Nat × AV)) (l : List AV) : List AV := us.foldl (fun l p => l.set p.1 p.2) l
theorem app_v (σ : St) (d : Option Nat) (v : AV) (ts : Option (Nat × AV)) (bx : Option (Nat × Option Box)) : σ.app d v ts bx = ⟨setsL (upds d v ts) σ.v, setBs σ.b bx⟩ := by
  cases d <;> cases ts <;> cases bx <;> rfl
theorem setsL_set (us : List (Nat × AV)) : ∀ (l : List AV) (n : Nat) (a : AV), (∀ p ∈ us, p.1 ≠ n) → setsL us (l.set n a) = (setsL us l).set n a := by
  induction us with
  | nil => intro l n a _; rfl
  | cons p us ih =>
    intro l n a h
    show setsL us ((l.set n a).set p.1 p.2) = (setsL us (l.set p.1 p.2)).set n a
    rw [List.set_comm _ _ (Ne.symm (h p (by simp))), ih _ _ _ fun q hq => h q (by simp [hq])]
theorem setsL_comm (us vs : List (Nat × AV)) : ∀ (l : List AV), (∀ p ∈ us, ∀ q ∈ vs, p.1 ≠ q.1) → setsL vs (setsL us l) = setsL us (setsL vs l) := by
  induction vs with
  | nil => intro l _; rfl
  | cons q vs ih =>
    intro l h
    show setsL vs ((setsL us l).set q.1 q.2) = setsL us (setsL vs (l.set q.1 q.2))
    rw [← setsL_set us l q.1 q.2 fun p hp => h p hp q (by simp), ih _ fun p hp q' hq' => h p hp q' (by simp [hq'])]
theorem setsL_get (us : List (Nat × AV)) : ∀ (l : List AV) (t : Nat), (∀ p ∈ us, p.1 ≠ t) → (setsL us l).getD t .top = l.getD t .top := by
  induction us with
  | nil => intro l t _; rfl
  | cons p us ih =>
    intro l t h
    show (setsL us (l.set p.1 p.2)).getD t .top = _
    rw [ih _ _ fun q hq => h q (by simp [hq])]
    simp only [List.getD_eq_getElem?_getD, List.getElem?_set_ne (h p (by simp))]
theorem upds_mem {d : Option Nat} {v : AV} {ts : Option (Nat × AV)} {p : Nat × AV} (h : p ∈ upds d v ts) : ts = some p ∨ d = some p.1 := by
  unfold upds at h
  rcases List.mem_append.1 h with h | h
  · cases ts with
    | none => cases h
    | some q => simp at h; exact .inl (by rw [h])
  · cases d with
    | none => cases h
    | some d => simp at h; exact .inr (by rw [h])
theorem app_get (σ : St) {d : Option Nat} {v : AV} {ts : Option (Nat × AV)} {bx : Option (Nat × Option Box)} {t : Nat} (hd : d ≠ some t) (ht : ∀ a, ts ≠ some (t, a)) : (σ.app d v ts bx).get t = σ.get t := by
  rw [app_v]
  refine setsL_get _ _ _ fun p hp he => ?_
  rcases upds_mem hp with h | h
  · exact ht p.2 (by rw [h, ← he])
  · exact hd (by rw [h, he])
theorem app_comm (σ : St) (b c : Option (Nat × Option Box)) (d e : Option Nat) (x y : AV) (ts us : Option (Nat × AV)) (h : ∀ p ∈ upds d x ts, ∀ q ∈ upds e y us, p.1 ≠ q.1) (hbc : b = none ∨ c = none ∨ ∃ i z j z', b = some (i, z) ∧ c = some (j, z') ∧ i ≠ j) :
    (σ.app d x ts b).app e y us c = (σ.app e y us c).app d x ts b := by
  rw [app_v, app_v, app_v, app_v]
  simp only
  rw [setsL_comm _ _ _ h]
  rcases hbc with rfl | rfl | ⟨i, z, j, z', rfl, rfl, hij⟩
  · rfl
  · rfl
  · show St.mk _ ((σ.b.set i z).set j z') = St.mk _ ((σ.b.set j z').set i z)
    rw [List.set_comm _ _ hij]

theorem isL_wr {o : AOp} (h : o.isL = true) : o.wrB2 = false := by
  cases o <;> simp only [AOp.isL, Bool.false_eq_true] at h
  rfl
theorem setBs_ne {bs : List (Option Box)} {c b : Nat} {z : Option Box} (h : c ≠ b) : (setBs bs (some (c, z)))[b]? = bs[b]? := List.getElem?_set_ne h

/-- the diamond -/
theorem swap (G : Goods) {ps : List (Nat × Nat)} {x y : AOper} (hx : x.op.dOK2 = true) (hy : y.op.dOK2 = true) (hi : indep ps x y = true) {σ : St} (hA : Apart ps σ) {K : St → Prop} (h : x.ev G σ fun σ1 => y.ev G σ1 K) : y.ev G σ fun σ2 => x.ev G σ2 K := by
  obtain ⟨h1, h2, h3, hm1, hm2, h4, h5⟩ := indep_inv hi
  obtain ⟨v, ts, bx, _, hts, hbx, _, hsx, hy1, hx1⟩ := AOper.local G x hx h
  obtain ⟨u, us, by', _, hus, hby, hbe, hsy, hk, hy2⟩ := AOper.local G y hy hy1
  have hgx : ∀ t ∈ y.temps, (σ.app x.dst v ts bx).get t = σ.get t := fun t ht => app_get σ (h1 t ht) fun a he => hm1 t ht (hts t a he)
  have hgy : ∀ t ∈ x.temps, (σ.app y.dst u us by').get t = σ.get t := fun t ht => app_get σ (h2 t ht) fun a he => hm2 t ht (hus t a he)
  have hbX : (σ.app x.dst v ts bx).b = setBs σ.b bx := by rw [app_v]
  have hbY : (σ.app y.dst u us by').b = setBs σ.b by' := by rw [app_v]
  have hyt : ∀ t ∈ y.op.temps, (σ.app x.dst v ts bx).get t = σ.get t := fun t ht => hgx t (List.mem_append_left _ ht)
  have hone : bx = none ∨ by' = none ∨ ∃ i z j z', bx = some (i, z) ∧ by' = some (j, z') ∧ i ≠ j := by
    cases hw : x.op.wrB2 with
    | false => exact .inl (hbx hw)
    | true =>
      cases hwy : y.op.wrB2 with
      | false => exact .inr (.inl (hby hwy))
      | true =>
        rcases h4 hw with h6 | ⟨h6, h7, h8⟩
        · have := wr_rd _ hwy; simp_all
        · rcases hsx h6 with hb | ⟨c, z, e1, e2⟩
          · exact .inl hb
          · have hyS : y.op.isS = true ∨ y.op.isA = true := by
              simp only [AOp.one, Bool.or_eq_true] at h7
              rcases h7 with (h7 | h7) | h7
              · rw [isL_wr h7] at hwy; cases hwy
              · exact .inl h7
              · exact .inr h7
            rcases hsy hyS with hb | ⟨c', z', e3, e4⟩
            · exact .inr (.inl hb)
            · exact .inr (.inr ⟨c, z, c', z', e2, e4, apart_ne h8 hA hyt e1 e3⟩)
  refine hy2 σ (fun t ht => (hgx t ht).symm) (fun hr => ?_) _ (hx1 _ (fun t ht => hgy t ht) (fun hr => ?_) _ ?_)
  · rw [hbX]
    cases hw : x.op.wrB2 with
    | false =>
      have hb : bx = none := hbx hw
      exact .of_eq (by rw [hb]; rfl)
    | true =>
      rcases h4 hw with h6 | ⟨h6, h7, h8⟩
      · rw [h6] at hr; cases hr
      · rcases hsx h6 with hb | ⟨c, z, e1, e2⟩
        · exact .of_eq (by rw [hb]; rfl)
        · unfold Bok
          rw [if_pos h7]
          intro b w hp hb _
          have hne : c ≠ b := apart_ne h8 hA hyt e1 hp
          rw [e2, setBs_ne hne] at hb
          exact hb
  · rw [hbY]
    cases hw : y.op.wrB2 with
    | false =>
      have hb : by' = none := hby hw
      exact .of_eq (by rw [hb]; rfl)
    | true =>
      rcases h5 hw with h6 | ⟨h6, h7⟩ | ⟨h6, h7, h8⟩
      · rw [h6] at hr; cases hr
      · have hb : bx = none := hbx (isL_wr h6)
        subst hb
        rcases hbe h7 with rfl | hbe
        · exact .of_eq rfl
        · unfold Bok
          rw [if_pos (by simp [AOp.one, h6])]
          rw [hbX] at hbe
          intro b w _ hw' hsome
          have hA' : x.op.isA = false := by cases hx' : x.op <;> simp [hx', AOp.isL] at h6 <;> simp [AOp.isA]
          rcases hsome with hs1 | hs1
          · rw [hA'] at hs1; cases hs1
          · cases w with
            | none => cases hs1
            | some w => exact hbe b w hw'
      · rcases hsy h7 with rfl | ⟨c, z, e1, e2⟩
        · exact .of_eq rfl
        · unfold Bok
          rw [if_pos h6]
          intro b w hp hb _
          have hne : b ≠ c := apart_ne h8 hA hyt hp e1
          rw [e2, setBs_ne (Ne.symm hne)]
          exact hb
  · rw [← app_comm σ bx by' x.dst y.dst v u ts us ?_ hone]
    · exact hk
    · intro p hp q hq he
      have hpx : ts = some p ∨ x.dst = some p.1 := upds_mem hp
      have hqy : us = some q ∨ y.dst = some q.1 := upds_mem hq
      rcases hqy with hq | hq
      · have hqt : q.1 ∈ y.temps := List.mem_append_left _ (AOp.mod_temps (hus q.1 q.2 hq))
        rcases hpx with hp | hp
        · exact hm1 q.1 hqt (by rw [← he]; exact hts p.1 p.2 hp)
        · exact h1 q.1 hqt (by rw [hp, he])
      · rcases hpx with hp | hp
        · have hpt : p.1 ∈ x.temps := List.mem_append_left _ (AOp.mod_temps (hts p.1 p.2 hp))
          exact h2 p.1 hpt (by rw [hq, he])
        · exact h3 p.1 hp (by rw [hq, he])

def dstFree (ps : List (Nat × Nat)) (d : Option Nat) : Bool := ps.all fun p => match d with | none => true | some d => !Nat.beq d p.1 && !Nat.beq d p.2
def srcOK (ps : List (Nat × Nat)) (x : AOper) (a b : Nat) : Bool :=
  match x.dst with
  | none => true
  | some d => !Nat.ble 1000000 d && (!Nat.beq d a || (match x.op.newB with
    | some c => ps.contains (1000000 + c, b) || ps.contains (b, 1000000 + c)
    | none => match x.op.src with
      | none => false
      | some none => true
      | some (some s) => !Nat.ble 1000000 s && (ps.contains (s, b) || ps.contains (b, s))))
def opFree (ps : List (Nat × Nat)) (x : AOper) : Bool := (ps.all fun p => !Nat.beq p.1 p.2 && srcOK ps x p.1 p.2 && srcOK ps x p.2 p.1) && dstFree ps x.op.mod
theorem dstFree_ne {ps : List (Nat × Nat)} {d : Option Nat} (hd : dstFree ps d = true) : ∀ p ∈ ps, d ≠ some p.1 ∧ d ≠ some p.2 := fun p hp => by
  have hpd := List.all_eq_true.1 hd p hp
  cases d with
  | none => exact ⟨by simp, by simp⟩
  | some d =>
    simp only [Bool.and_eq_true, Bool.not_eq_true'] at hpd
    exact ⟨fun he => by cases he; simp at hpd, fun he => by cases he; simp at hpd⟩
theorem app_get_dst (σ : St) {d : Nat} {v : AV} {ts : Option (Nat × AV)} {bx : Option (Nat × Option Box)} : (σ.app (some d) v ts bx).get d = v ∨ (σ.app (some d) v ts bx).get d = .top := by
  have e : (σ.app (some d) v ts bx).get d = if d = d ∧ d < ((σ.setO ts).setB bx).v.length then v else ((σ.setO ts).setB bx).get d := St.get_set _ _ _ _
  rw [e]
  by_cases h : d < ((σ.setO ts).setB bx).v.length
  · rw [if_pos ⟨rfl, h⟩]; exact .inl rfl
  · rw [if_neg (fun hh => h hh.2)]
    right
    unfold St.get
    rw [List.getD_eq_getElem?_getD, List.getElem?_eq_none (by omega)]
    rfl
theorem srcOK_ref {ps : List (Nat × Nat)} {x : AOper} {a b : Nat} (hab' : a ≠ b) (hs : srcOK ps x a b = true) {σ : St} (hA : Apart ps σ) {v : AV} (hv : SrcF x.op σ v)
    {ts : Option (Nat × AV)} {bx : Option (Nat × Option Box)} : x.dst = some a → ∀ i, (σ.app x.dst v ts bx).refO a = some i → (x.dst ≠ some b ∧ σ.refO b ≠ some i) := by
  intro hd i hi
  unfold srcOK at hs
  rw [hd] at hs hi
  simp only [Nat.beq_refl, Bool.not_true, Bool.false_or, Bool.and_eq_true, Bool.not_eq_true'] at hs
  obtain ⟨hlt, hs⟩ := hs
  rw [refO_lt hlt] at hi
  have hne' : x.dst ≠ some b := fun he => hab' (by rw [hd] at he; exact Option.some.inj he)
  have hval : v.ref = some i := by
    rcases app_get_dst σ (d := a) (v := v) (ts := ts) (bx := bx) with hg | hg
    · rw [hg] at hi; exact hi
    · rw [hg] at hi; cases hi
  refine ⟨hne', fun hb => ?_⟩
  split at hs
  · rename_i c hnew
    simp only [Bool.or_eq_true, List.contains_iff_mem] at hs
    have hci : c = i := by
      rcases hv.2 c hnew with h0 | h0
      · rw [h0] at hval; cases hval
      · rw [h0] at hval; exact Option.some.inj hval
    subst hci
    rcases hs with hm | hm
    · exact hA _ hm c (refO_box c) hb
    · exact hA _ hm c hb (refO_box c)
  · split at hs
    · cases hs
    · rename_i hsrc
      rcases hv.1 _ hsrc with h0 | ⟨s, h0, _⟩
      · rw [h0] at hval; cases hval
      · cases h0
    · rename_i s hsrc
      simp only [Bool.and_eq_true, Bool.not_eq_true', Bool.or_eq_true, List.contains_iff_mem] at hs
      obtain ⟨hslt, hmem⟩ := hs
      rcases hv.1 _ hsrc with h0 | ⟨s', h1, h0⟩
      · rw [h0] at hval; cases hval
      · cases h1
        rw [h0, ← refO_lt (σ := σ) hslt] at hval
        rcases hmem with hm | hm
        · exact hA _ hm i hval hb
        · exact hA _ hm i hb hval
theorem Apart.step {ps : List (Nat × Nat)} {σ : St} (h : Apart ps σ) {x : AOper} (hd : opFree ps x = true) (bx : Option (Nat × Option Box)) (v : AV) (hv : SrcF x.op σ v) {ts : Option (Nat × AV)} (hts : ∀ n a, ts = some (n, a) → x.op.mod = some n) : Apart ps (σ.app x.dst v ts bx) := by
  intro p hp i
  simp only [opFree, Bool.and_eq_true, List.all_eq_true] at hd
  obtain ⟨⟨h0, h1⟩, h1'⟩ := hd.1 p hp
  have hpp : p.1 ≠ p.2 := fun he => by rw [he] at h0; simp at h0
  have h2 := dstFree_ne hd.2 p hp
  have ha : ∀ c, ts ≠ some (p.1, c) := fun c he => h2.1 (hts _ _ he)
  have hb : ∀ c, ts ≠ some (p.2, c) := fun c he => h2.2 (hts _ _ he)
  have hab := h p hp
  have hba : ∀ i, σ.refO p.2 = some i → σ.refO p.1 ≠ some i := fun i h1 h2 => hab i h2 h1
  by_cases e1 : x.dst = some p.1
  · intro hi hj
    obtain ⟨hne, hb2⟩ := srcOK_ref (bx := bx) (ts := ts) hpp h1 h hv e1 i hi
    rw [refO_congr (app_get σ hne hb)] at hj
    exact hb2 hj
  · by_cases e2 : x.dst = some p.2
    · intro hi hj
      obtain ⟨hne, hb2⟩ := srcOK_ref (bx := bx) (ts := ts) (Ne.symm hpp) h1' h hv e2 i hj
      rw [refO_congr (app_get σ hne ha)] at hi
      exact hb2 hi
    · rw [refO_congr (app_get σ e1 ha), refO_congr (app_get σ e2 hb)]
      exact hab i
/-- one that all before it do not look at may come first; and what points apart stays so -/
theorem bring (G : Goods) {ps : List (Nat × Nat)} {x : AOper} (hx : x.op.dOK2 = true) (hxd : opFree ps x = true) : ∀ (pre : List AOper) (post : List AOper), (∀ y ∈ pre, y.op.dOK2 = true ∧ opFree ps y = true ∧ indep ps y x = true) → ∀ {σ : St} {K : St → Prop}, Apart ps σ → evOps G (pre ++ x :: post) σ K → x.ev G σ fun σ' => evOps G (pre ++ post) σ' K ∧ Apart ps σ'
  | [], post, _, σ, K, hA, h => by
    have h' : x.ev G σ fun σ' => evOps G post σ' K := h
    obtain ⟨v, ts, bx, hv, ht, _, _, _, hk, hl⟩ := AOper.local G x hx h'
    exact hl σ (fun _ _ => rfl) (fun _ => .of_eq rfl) _ ⟨hk, hA.step hxd bx v hv ht⟩
  | y :: pre, post, hp, σ, K, hA, h => by
    have hy := hp y (by simp)
    have h' : y.ev G σ fun σ' => evOps G (pre ++ x :: post) σ' K := h
    obtain ⟨v, ts, bx, hv, ht, _, _, _, hk, hl⟩ := AOper.local G y hy.1 h'
    have hA' := hA.step hy.2.1 bx v hv ht
    have h2 : x.ev G σ fun σ' => y.ev G σ' fun σ'' => evOps G (pre ++ post) σ'' K := by
      refine swap G hy.1 hx hy.2.2 hA ?_
      refine hl σ (fun _ _ => rfl) (fun _ => .of_eq rfl) _ ?_
      have h3 := bring G hx hxd pre post (fun z hz => hp z (by simp [hz])) hA' hk
      obtain ⟨v', ts', bx', _, _, _, _, _, hk', hl'⟩ := AOper.local G x hx h3
      exact hl' _ (fun _ _ => rfl) (fun _ => .of_eq rfl) _ hk'.1
    obtain ⟨v', ts', bx', hv', ht', _, _, _, hk', hl'⟩ := AOper.local G x hx h2
    exact hl' σ (fun _ _ => rfl) (fun _ => .of_eq rfl) _ ⟨hk', hA.step hxd bx' v' hv' ht'⟩
end
end Go.Proofs.Ytfkihagcgjombaa

/- What a walk over data leans on: loops told by what turns in them, equal states told by their leaves, rows of lists. No program's fact stands here. -/
import Derived.Test.YtfkihagcgjombaaAwL
namespace Go.Proofs.Ytfkihagcgjombaa
open Go.RowKit

theorem wrap_i64 (n : Int) : IntKind.i64.wrap n = (n + 9223372036854775808) % 18446744073709551616 - 9223372036854775808 := by
  simp only [IntKind.wrap, IntKind.signed, IntKind.bits, Bool.true_and, decide_eq_true_eq, ge_iff_le]
  split <;> omega
theorem wrap_u64 (n : Int) : IntKind.u64.wrap n = n % 18446744073709551616 := by
  simp only [IntKind.wrap, IntKind.signed, IntKind.bits, Bool.false_and, Bool.false_eq_true, if_false]
  omega
theorem wrap_u32 (n : Int) : IntKind.u32.wrap n = n % 4294967296 := by
  simp only [IntKind.wrap, IntKind.signed, IntKind.bits, Bool.false_and, Bool.false_eq_true, if_false]
  omega
theorem wrap_u16 (n : Int) : IntKind.u16.wrap n = n % 65536 := by
  simp only [IntKind.wrap, IntKind.signed, IntKind.bits, Bool.false_and, Bool.false_eq_true, if_false]
  omega
theorem wrap_u8 (n : Int) : IntKind.u8.wrap n = n % 256 := by
  simp only [IntKind.wrap, IntKind.signed, IntKind.bits, Bool.false_and, Bool.false_eq_true, if_false]
  omega
theorem wf_i64 {n : Int} (h : (Lit.int .i64 n).wf = true) : -9223372036854775808 ≤ n ∧ n ≤ 9223372036854775807 := by
  simp only [Lit.wf, IntKind.min, IntKind.max, IntKind.signed, IntKind.bits, if_true, Bool.and_eq_true, decide_eq_true_eq] at h
  omega
theorem wf_u64 {n : Int} (h : (Lit.int .u64 n).wf = true) : 0 ≤ n ∧ n ≤ 18446744073709551615 := by
  simp only [Lit.wf, IntKind.min, IntKind.max, IntKind.signed, IntKind.bits, Bool.false_eq_true, if_false, Bool.and_eq_true, decide_eq_true_eq] at h
  omega
theorem wf_u32 {n : Int} (h : (Lit.int .u32 n).wf = true) : 0 ≤ n ∧ n ≤ 4294967295 := by
  simp only [Lit.wf, IntKind.min, IntKind.max, IntKind.signed, IntKind.bits, Bool.false_eq_true, if_false, Bool.and_eq_true, decide_eq_true_eq] at h
  omega
theorem wf_u8 {n : Int} (h : (Lit.int .u8 n).wf = true) : 0 ≤ n ∧ n ≤ 255 := by
  simp only [Lit.wf, IntKind.min, IntKind.max, IntKind.signed, IntKind.bits, Bool.false_eq_true, if_false, Bool.and_eq_true, decide_eq_true_eq] at h
  omega
theorem maxLen_eq : maxLen = 9223372036854775807 := rfl

/-- tests that are known -/
theorem br_l {b c d : Bool} {A B : Prop} (h : b = c) (hcd : (c != d) = true) (hA : A) : (b = c → A) ∧ (b = d → B) :=
  ⟨fun _ => hA, fun hd => by rw [h] at hd; rw [hd] at hcd; simp at hcd⟩
theorem br_r {b c d : Bool} {A B : Prop} (h : b = d) (hcd : (c != d) = true) (hB : B) : (b = c → A) ∧ (b = d → B) :=
  ⟨fun hc => (by rw [h] at hc; rw [hc] at hcd; simp at hcd), fun _ => hB⟩

/-- leaf by leaf -/
def AV.eqv1 (a b : AV) (K : Prop) : Prop :=
  match a with
  | .top => match b with
    | .top => K
    | b => .top = b ∧ K
  | .bool x => match b with
    | .bool y => x = y ∧ K
    | b => .bool x = b ∧ K
  | .int k x => match b with
    | .int k' y => match decide (k = k') with
      | true => x = y ∧ K
      | false => False
    | b => .int k x = b ∧ K
  | .str x => match b with
    | .str y => x = y ∧ K
    | b => .str x = b ∧ K
  | .sl p es x => match b with
    | .sl p' es' y => match decide (p = p'), Nat.beq es es' with
      | true, true => x = y ∧ K
      | _, _ => False
    | b => .sl p es x = b ∧ K
  | .ptr b1 es i off => match b with
    | .ptr b2 es' i' off' => match Nat.beq b1 b2, Nat.beq es es' with
      | true, true => i = i' ∧ off = off' ∧ K
      | _, _ => False
    | b => .ptr b1 es i off = b ∧ K
  | .bsl b1 es off n => match b with
    | .bsl b2 es' off' n' => match Nat.beq b1 b2, Nat.beq es es' with
      | true, true => off = off' ∧ n = n' ∧ K
      | _, _ => False
    | b => .bsl b1 es off n = b ∧ K
  | a => a = b ∧ K
theorem AV.of_eqv1 {a b : AV} {K : Prop} (h : AV.eqv1 a b K) : a = b ∧ K := by
  unfold AV.eqv1 at h
  split at h
  · split at h
    · exact ⟨rfl, h⟩
    · exact h
  · split at h
    · exact ⟨by rw [h.1], h.2⟩
    · exact h
  · split at h
    · split at h
      · rename_i hk
        exact ⟨by rw [of_decide_eq_true hk, h.1], h.2⟩
      · exact h.elim
    · exact h
  · split at h
    · exact ⟨by rw [h.1], h.2⟩
    · exact h
  · split at h
    · split at h
      · rename_i h1 h2
        exact ⟨by rw [of_decide_eq_true h1, Nat.eq_of_beq_eq_true h2, h.1], h.2⟩
      · exact h.elim
    · exact h
  · split at h
    · split at h
      · rename_i h1 h2
        exact ⟨by rw [Nat.eq_of_beq_eq_true h1, Nat.eq_of_beq_eq_true h2, h.1, h.2.1], h.2.2⟩
      · exact h.elim
    · exact h
  · split at h
    · split at h
      · rename_i h1 h2
        exact ⟨by rw [Nat.eq_of_beq_eq_true h1, Nat.eq_of_beq_eq_true h2, h.1, h.2.1], h.2.2⟩
      · exact h.elim
    · exact h
  · exact h
def AV.eqvL : List AV → List AV → Prop → Prop
  | [], [], K => K
  | a :: l, b :: m, K => AV.eqv1 a b (AV.eqvL l m K)
  | _, _, _ => False
theorem AV.of_eqvL : ∀ {l m : List AV} {K : Prop}, AV.eqvL l m K → l = m ∧ K
  | [], [], K, h => ⟨rfl, h⟩
  | a :: l, b :: m, K, h => by
    obtain ⟨h1, h2⟩ := AV.of_eqv1 h
    obtain ⟨h3, h4⟩ := AV.of_eqvL h2
    exact ⟨by rw [h1, h3], h4⟩
  | [], _ :: _, _, h => h.elim
  | _ :: _, [], _, h => h.elim
def AV.eqv2 (a b : AV) (K : Prop) : Prop :=
  match a with
  | .agg l => match b with
    | .agg m => AV.eqvL l m K
    | b => .agg l = b ∧ K
  | a => AV.eqv1 a b K
theorem AV.of_eqv2 {a b : AV} {K : Prop} (h : AV.eqv2 a b K) : a = b ∧ K := by
  unfold AV.eqv2 at h
  split at h
  · split at h
    · obtain ⟨h1, h2⟩ := AV.of_eqvL h
      exact ⟨by rw [h1], h2⟩
    · exact h
  · exact AV.of_eqv1 h
def AV.eqvM : List AV → List AV → Prop → Prop
  | [], [], K => K
  | a :: l, b :: m, K => AV.eqv2 a b (AV.eqvM l m K)
  | _, _, _ => False
theorem AV.of_eqvM : ∀ {l m : List AV} {K : Prop}, AV.eqvM l m K → l = m ∧ K
  | [], [], K, h => ⟨rfl, h⟩
  | a :: l, b :: m, K, h => by
    obtain ⟨h1, h2⟩ := AV.of_eqv2 h
    obtain ⟨h3, h4⟩ := AV.of_eqvM h2
    exact ⟨by rw [h1, h3], h4⟩
  | [], _ :: _, _, h => h.elim
  | _ :: _, [], _, h => h.elim
def AV.eqv (a b : AV) : Prop :=
  match a with
  | .tuple l => match b with
    | .tuple m => AV.eqvM l m True
    | b => .tuple l = b
  | a => AV.eqv2 a b True
theorem AV.of_eqv {a b : AV} (h : AV.eqv a b) : a = b := by
  unfold AV.eqv at h
  split at h
  · split at h
    · rw [(AV.of_eqvM h).1]
    · exact h
  · exact (AV.of_eqv2 h).1
def AV.eqvT (a b : AV) (K : Prop) : Prop :=
  match a with
  | .tuple l => match b with
    | .tuple m => AV.eqvM l m K
    | b => .tuple l = b ∧ K
  | a => AV.eqv2 a b K
theorem AV.of_eqvT {a b : AV} {K : Prop} (h : AV.eqvT a b K) : a = b ∧ K := by
  unfold AV.eqvT at h
  split at h
  · split at h
    · obtain ⟨h1, h2⟩ := AV.of_eqvM h
      exact ⟨by rw [h1], h2⟩
    · exact h
  · exact AV.of_eqv2 h
def eqvV : List AV → List AV → Prop → Prop
  | [], [], K => K
  | a :: l, b :: m, K => AV.eqvT a b (eqvV l m K)
  | _, _, _ => False
theorem of_eqvV : ∀ {l m : List AV} {K : Prop}, eqvV l m K → l = m ∧ K
  | [], [], K, h => ⟨rfl, h⟩
  | a :: l, b :: m, K, h => by
    obtain ⟨h1, h2⟩ := AV.of_eqvT h
    obtain ⟨h3, h4⟩ := of_eqvV h2
    exact ⟨by rw [h1, h3], h4⟩
  | [], _ :: _, _, h => h.elim
  | _ :: _, [], _, h => h.elim
def eqvX (a b : Option Box) (K : Prop) : Prop :=
  match a with
  | none => match b with
    | none => K
    | some _ => False
  | some x => match b with
    | none => False
    | some y => match x with
      | ⟨true, es, xs⟩ => match y with
        | ⟨true, es', ys⟩ => match Nat.beq es es' with
          | true => match xs with
            | [l] => match ys with
              | [m] => AV.eqvL l m K
              | ys => [l] = ys ∧ K
            | xs => xs = ys ∧ K
          | false => False
        | _ => False
      | ⟨false, es, xs⟩ => match y with
        | ⟨false, es', ys⟩ => match Nat.beq es es' with
          | true => xs = ys ∧ K
          | false => False
        | _ => False
theorem of_eqvX {a b : Option Box} {K : Prop} (h : eqvX a b K) : a = b ∧ K := by
  unfold eqvX at h
  split at h
  · split at h
    · exact ⟨rfl, h⟩
    · exact h.elim
  · split at h
    · exact h.elim
    · split at h
      · split at h
        · split at h
          · rename_i hes
            have := Nat.eq_of_beq_eq_true hes
            subst this
            split at h
            · split at h
              · obtain ⟨h1, h2⟩ := AV.of_eqvL h
                exact ⟨by rw [h1], h2⟩
              · exact ⟨by rw [h.1], h.2⟩
            · exact ⟨by rw [h.1], h.2⟩
          · exact h.elim
        · exact h.elim
      · split at h
        · split at h
          · rename_i hes
            have := Nat.eq_of_beq_eq_true hes
            subst this
            exact ⟨by rw [h.1], h.2⟩
          · exact h.elim
        · exact h.elim
def eqvB : List (Option Box) → List (Option Box) → Prop
  | [], [] => True
  | a :: l, b :: m => eqvX a b (eqvB l m)
  | _, _ => False
theorem of_eqvB : ∀ {l m : List (Option Box)}, eqvB l m → l = m
  | [], [], _ => rfl
  | a :: l, b :: m, h => by
    obtain ⟨h1, h2⟩ := of_eqvX h
    rw [h1, of_eqvB h2]
  | [], _ :: _, h => h.elim
  | _ :: _, [], h => h.elim
def St.eqv (σ τ : St) : Prop := eqvV σ.v τ.v (eqvB σ.b τ.b)
theorem st_of {σ τ : St} (h : St.eqv σ τ) : σ = τ := by
  obtain ⟨v, b⟩ := σ
  obtain ⟨v', b'⟩ := τ
  obtain ⟨h1, h2⟩ := of_eqvV h
  have h1 : v = v' := h1
  have h2 : b = b' := of_eqvB h2
  rw [h1, h2]

/-- the state with other values at some places -/
def St.sets (σ : St) (us : List (Nat × AV)) (bs : List (Nat × Option Box)) : St := ⟨us.foldl (fun v p => v.set p.1 p.2) σ.v, bs.foldl (fun v p => v.set p.1 p.2) σ.b⟩
/-- a loop, told by what turns in it -/
theorem loop_at {α : Type} (ws : List Nat) (us : α → List (Nat × AV)) (bs : α → List (Nat × Option Box)) (inv : α → Prop) (m : α → Nat) (y0 : α) {body : St → (AX → St → Prop) → Prop} {cl : List Bool} {cb : List Nat} {K : AX → St → Prop} {σ : St}
    (h0 : (σ.clear cl cb).weak ws = ((σ.clear cl cb).weak ws).sets (us y0) (bs y0)) (hi : inv y0) (hok : ∀ y, inv y → (((σ.clear cl cb).weak ws).sets (us y) (bs y)).okRefs = true)
    (hb : ∀ y (next : St → Prop), inv y → (∀ y' σ', inv y' → m y' < m y → (σ'.clear cl cb).weak ws = ((σ.clear cl cb).weak ws).sets (us y') (bs y') → next σ') →
      body (((σ.clear cl cb).weak ws).sets (us y) (bs y)) (kRnd next K)) : loopA body cl cb σ K :=
  ⟨loop_rule ws (fun y => ((σ.clear cl cb).weak ws).sets (us y) (bs y)) inv m y0 h0 hi hok fun y _ hy ih => hb y _ hy ih⟩
theorem loop_run {body : St → (AX → St → Prop) → Prop} {cl : List Bool} {cb : List Nat} {K : AX → St → Prop} {σ : St} (n : Nat) (h : iter body cl cb n σ K) : loopA body cl cb σ K := ⟨⟨n, h⟩⟩

/-- one label, told by what turns at it: come to from above, and by jumps -/
theorem jump_at {α : Type} (ws : List Nat) (us : α → List (Nat × AV)) (bs : α → List (Nat × Option Box)) (inv : α → Prop) (m : α → Nat) (y0 : α) {b1 b2 : St → (AX → St → Prop) → Prop} {l1 l2 : Nat} {cl cl2 : List Bool} {cb cb2 : List Nat} {K : AX → St → Prop} {σ : St}
    (h0 : (σ.clear cl cb).weak ws = ((σ.clear cl cb).weak ws).sets (us y0) (bs y0)) (hi : inv y0) (hok : ∀ y, inv y → (((σ.clear cl cb).weak ws).sets (us y) (bs y)).okRefs = true)
    (hb : ∀ y (next : Nat → St → Prop), inv y → (∀ y' σ', inv y' → m y' < m y → (σ'.clear cl cb).weak ws = ((σ.clear cl cb).weak ws).sets (us y') (bs y') → next l1 σ') →
      b1 (((σ.clear cl cb).weak ws).sets (us y) (bs y)) (kGot next K)) : labA b1 cl cb σ (kGot (jumpA b1 b2 l1 cl cb l2 cl2 cb2 K) K) := by
  have key : ∀ n y σ', inv y → m y < n → (σ'.clear cl cb).weak ws = ((σ.clear cl cb).weak ws).sets (us y) (bs y) → jmp b1 b2 l1 cl cb l2 cl2 cb2 K n l1 σ' := by
    intro n
    induction n with
    | zero => intro y σ' _ h; omega
    | succ n ih =>
      intro y σ' hy hm he
      refine .inl ⟨rfl, ws, ?_⟩
      rw [he]
      exact ⟨hok y hy, hb y _ hy fun y' σ'' hy' hm' he' => ih y' σ'' hy' (by omega) he'⟩
  refine ⟨⟨ws, ?_⟩⟩
  rw [h0]
  exact ⟨hok y0 hi, hb y0 _ hi fun y' σ' hy' hm' he' => ⟨⟨m y' + 1, key _ y' σ' hy' (by omega) he'⟩⟩⟩

/-- two labels, each told by what turns at it; the second one is come to from the first one's text, too -/
theorem jump2_at {α β : Type} (ws1 ws2 : List Nat) (us1 : α → List (Nat × AV)) (bs1 : α → List (Nat × Option Box)) (inv1 : α → Prop) (m1 : α → Nat) (us2 : β → List (Nat × AV)) (bs2 : β → List (Nat × Option Box)) (inv2 : β → Prop) (m2 : β → Nat) (y0 : α)
    {b1 b2 : St → (AX → St → Prop) → Prop} {l1 l2 : Nat} {cl1 cl2 : List Bool} {cb1 cb2 : List Nat} {K : AX → St → Prop} {σ : St}
    (h0 : (σ.clear cl1 cb1).weak ws1 = ((σ.clear cl1 cb1).weak ws1).sets (us1 y0) (bs1 y0)) (hi : inv1 y0)
    (hok1 : ∀ y, inv1 y → (((σ.clear cl1 cb1).weak ws1).sets (us1 y) (bs1 y)).okRefs = true) (hok2 : ∀ z, inv2 z → (((σ.clear cl2 cb2).weak ws2).sets (us2 z) (bs2 z)).okRefs = true)
    (hb2 : ∀ z (next : Nat → St → Prop), inv2 z → (∀ y' σ', inv1 y' → m1 y' < m2 z → (σ'.clear cl1 cb1).weak ws1 = ((σ.clear cl1 cb1).weak ws1).sets (us1 y') (bs1 y') → next l1 σ') →
      (∀ z' σ', inv2 z' → m2 z' < m2 z → (σ'.clear cl2 cb2).weak ws2 = ((σ.clear cl2 cb2).weak ws2).sets (us2 z') (bs2 z') → next l2 σ') →
      b2 (((σ.clear cl2 cb2).weak ws2).sets (us2 z) (bs2 z)) (kGot next K))
    (hb1 : ∀ y (next : Nat → St → Prop), inv1 y → (∀ y' σ', inv1 y' → m1 y' < m1 y → (σ'.clear cl1 cb1).weak ws1 = ((σ.clear cl1 cb1).weak ws1).sets (us1 y') (bs1 y') → next l1 σ') →
      (∀ z' σ', inv2 z' → m2 z' < m1 y → (σ'.clear cl2 cb2).weak ws2 = ((σ.clear cl2 cb2).weak ws2).sets (us2 z') (bs2 z') → labA b2 cl2 cb2 σ' (kGot next K)) →
      b1 (((σ.clear cl1 cb1).weak ws1).sets (us1 y) (bs1 y)) (kGot next K)) : labA b1 cl1 cb1 σ (kGot (jumpA b1 b2 l1 cl1 cb1 l2 cl2 cb2 K) K) := by
  have lab : ∀ y (next : Nat → St → Prop), (∀ y' σ', inv1 y' → m1 y' < m1 y → (σ'.clear cl1 cb1).weak ws1 = ((σ.clear cl1 cb1).weak ws1).sets (us1 y') (bs1 y') → next l1 σ') →
      (∀ z' σ', inv2 z' → m2 z' < m1 y → (σ'.clear cl2 cb2).weak ws2 = ((σ.clear cl2 cb2).weak ws2).sets (us2 z') (bs2 z') → next l2 σ') →
      ∀ z' σ', inv2 z' → m2 z' < m1 y → (σ'.clear cl2 cb2).weak ws2 = ((σ.clear cl2 cb2).weak ws2).sets (us2 z') (bs2 z') → labA b2 cl2 cb2 σ' (kGot next K) := fun y next p1 p2 z' σ' hz hm he => by
    refine ⟨⟨ws2, ?_⟩⟩
    rw [he]
    exact ⟨hok2 z' hz, hb2 z' next hz (fun y' σ'' hy' hm' he' => p1 y' σ'' hy' (by omega) he') (fun z'' σ'' hz' hm' he' => p2 z'' σ'' hz' (by omega) he')⟩
  have key : ∀ n, (∀ y σ', inv1 y → m1 y < n → (σ'.clear cl1 cb1).weak ws1 = ((σ.clear cl1 cb1).weak ws1).sets (us1 y) (bs1 y) → jmp b1 b2 l1 cl1 cb1 l2 cl2 cb2 K n l1 σ') ∧
      (∀ z σ', inv2 z → m2 z < n → (σ'.clear cl2 cb2).weak ws2 = ((σ.clear cl2 cb2).weak ws2).sets (us2 z) (bs2 z) → jmp b1 b2 l1 cl1 cb1 l2 cl2 cb2 K n l2 σ') := by
    intro n
    induction n with
    | zero => exact ⟨fun y σ' _ h => by omega, fun z σ' _ h => by omega⟩
    | succ n ih =>
      refine ⟨fun y σ' hy hm he => .inl ⟨rfl, ws1, ?_⟩, fun z σ' hz hm he => .inr ⟨rfl, ws2, ?_⟩⟩
      · rw [he]
        have p1 : ∀ y' σ'', inv1 y' → m1 y' < m1 y → _ → jmp b1 b2 l1 cl1 cb1 l2 cl2 cb2 K n l1 σ'' := fun y' σ'' hy' hm' he' => ih.1 y' σ'' hy' (by omega) he'
        have p2 : ∀ z' σ'', inv2 z' → m2 z' < m1 y → _ → jmp b1 b2 l1 cl1 cb1 l2 cl2 cb2 K n l2 σ'' := fun z' σ'' hz' hm' he' => ih.2 z' σ'' hz' (by omega) he'
        exact ⟨hok1 y hy, hb1 y _ hy p1 (lab y _ p1 p2)⟩
      · rw [he]
        exact ⟨hok2 z hz, hb2 z _ hz (fun y' σ'' hy' hm' he' => ih.1 y' σ'' hy' (by omega) he') (fun z' σ'' hz' hm' he' => ih.2 z' σ'' hz' (by omega) he')⟩
  refine ⟨⟨ws1, ?_⟩⟩
  rw [h0]
  have p1 : ∀ y' σ'', inv1 y' → m1 y' < m1 y0 → (σ''.clear cl1 cb1).weak ws1 = ((σ.clear cl1 cb1).weak ws1).sets (us1 y') (bs1 y') → jumpA b1 b2 l1 cl1 cb1 l2 cl2 cb2 K l1 σ'' := fun y' σ'' hy' _ he' => ⟨⟨m1 y' + 1, (key _).1 y' σ'' hy' (by omega) he'⟩⟩
  have p2 : ∀ z' σ'', inv2 z' → m2 z' < m1 y0 → (σ''.clear cl2 cb2).weak ws2 = ((σ.clear cl2 cb2).weak ws2).sets (us2 z') (bs2 z') → jumpA b1 b2 l1 cl1 cb1 l2 cl2 cb2 K l2 σ'' := fun z' σ'' hz' _ he' => ⟨⟨m2 z' + 1, (key _).2 z' σ'' hz' (by omega) he'⟩⟩
  exact ⟨hok1 y0 hi, hb1 y0 _ hi p1 (lab y0 _ p1 p2)⟩

/-- rows of a list of things -/
theorem ex_row {α : Type} {f : α → List AV} {l : List α} {i : Nat} {K : List AV → Prop} (hi : i < l.length) (h : ∀ x, l[i]? = some x → K (f x)) : ∃ c, (l.map f)[i]? = some c ∧ K c := by
  have hx : l[i]? = some l[i] := List.getElem?_eq_getElem hi
  exact ⟨f l[i], by rw [List.getElem?_map, hx]; rfl, h _ hx⟩
theorem ex_at {α : Type} {l : List α} {i : Nat} {K : α → Prop} (hi : i < l.length) (h : ∀ x, l[i]? = some x → K x) : ∃ c, l[i]? = some c ∧ K c :=
  ⟨l[i], List.getElem?_eq_getElem hi, h _ (List.getElem?_eq_getElem hi)⟩
theorem toNat_ofNat (i : Nat) : (↑i : Int).toNat = i := Int.toNat_natCast i
end Go.Proofs.Ytfkihagcgjombaa

/- Code, loops and functions are told rightly. No program's fact stands here. -/
import Derived.Test.YtfkihagcgjombaaAwQ
import Derived.Scope
namespace Go.Proofs.Ytfkihagcgjombaa
open Go.RowKit

section
variable {P : Program} {g : Gh} {w0 : World} {I0 : Cells} {σ : St} {a : Act} {w : World}

/-! a region whose order is open -/
def predOf (o : Oper) (j : Nat) : Bool := o.after.toList.any fun e => Region.binds .any e && Nat.beq e.on j
def drawRow (ps : List (Nat × Nat)) (ops : Array Oper) (xs : List AOper) (i : Nat) (x : AOper) : Bool :=
  match ops[i]? with
  | none => false
  | some o => (x.op.dOK2 && opFree ps x) && (o.after.toList.all fun e => !Region.binds .any e || Nat.blt e.on i) && (xs.take i).zipIdx.all fun p => predOf o p.2 || indep ps p.1 x
def drawOK (P : Program) (ps : List (Nat × Nat)) (ops : Array Oper) (xs : List AOper) : Bool := P.follows .mixedOrders && xs.zipIdx.all fun p => drawRow ps ops xs p.2 p.1

theorem drawOK_row {ps : List (Nat × Nat)} {ops : Array Oper} {xs : List AOper} (h : drawOK P ps ops xs = true) {i : Nat} {x : AOper} (hx : xs[i]? = some x) :
    ∃ o, ops[i]? = some o ∧ (x.op.dOK2 = true ∧ opFree ps x = true) ∧ (∀ e ∈ o.after, Region.binds .any e = true → e.on < i) ∧ ∀ (j : Nat) y, j < i → xs[j]? = some y → predOf o j = true ∨ indep ps y x = true := by
  simp only [drawOK, Bool.and_eq_true, List.all_eq_true] at h
  have hr := h.2 (x, i) (List.mem_zipIdx_iff_getElem?.2 (by simpa using hx))
  unfold drawRow at hr
  split at hr
  · cases hr
  · rename_i o ho
    simp only [Bool.and_eq_true, List.all_eq_true] at hr
    obtain ⟨⟨h1, h2⟩, h3⟩ := hr
    refine ⟨o, ho, h1, fun e he hb => ?_, fun j y hj hy => ?_⟩
    · have := h2 e (Array.mem_toList_iff.2 he)
      rw [hb] at this
      simp only [Bool.not_true, Bool.false_or] at this
      rwa [Nat.blt_eq] at this
    · have := h3 (y, j) (List.mem_zipIdx_iff_getElem?.2 (by rw [List.getElem?_take, if_pos hj]; exact hy))
      simpa using this

theorem evOps_nil (G : Goods) (σ : St) (K : St → Prop) : evOps G [] σ K = K σ := rfl

theorem drw_told {ps : List (Nat × Nat)} {ops : Array Oper} {xs : List AOper} {G : Goods} (hG : ∀ f xs r, G f xs r → Good P f xs r) (hc : chkOpers P ops xs ops.toList = true) (hdr : drawOK P ps ops xs = true) {Q : Exit → Act → World → Prop} {K : St → Prop} (hK : ∀ σ', K σ' → ∀ g' a' w', Rel g' w0 I0 σ' a' w' → Q .normal a' w') :
    ∀ (fuel : Nat) (listed : Array Bool) (rem : List Nat) (g : Gh) (σ : St) (a : Act) (w : World), rem.length = fuel → listed.size = ops.size → rem.Pairwise (· < ·) → (∀ i, i ∈ rem ↔ i < ops.size ∧ listed.getD i true = false) → Rel g w0 I0 σ a w → Apart ps σ →
      evOps G (rem.filterMap (xs[·]?)) σ K → wpAny P .any ops Q fuel listed a w := by
  obtain ⟨hlen, hget⟩ := chkOpers_get hc
  have hlen' : xs.length = ops.size := by simpa using hlen
  have hready : ∀ (listed : Array Bool) (rem : List Nat), (∀ i, i ∈ rem ↔ i < ops.size ∧ listed.getD i true = false) → ∀ i ∈ Region.ready .any ops listed, i ∈ rem := fun listed rem hm i hi => by
    simp only [Region.ready, List.mem_filter, List.mem_range, Bool.and_eq_true, Bool.not_eq_true'] at hi
    exact (hm i).2 ⟨hi.1, hi.2.1⟩
  have hdone : ∀ (listed : Array Bool) (rem : List Nat), listed.size = ops.size → rem.Pairwise (· < ·) → (∀ i, i ∈ rem ↔ i < ops.size ∧ listed.getD i true = false) → Region.ready .any ops listed = [] → rem = [] := fun listed rem hls hp hm hr => by
    cases rem with
    | nil => rfl
    | cons m rem =>
      exfalso
      have hmm := (hm m).1 (by simp)
      have hxm : xs[m]? = some (xs[m]'(by omega)) := List.getElem?_eq_getElem _
      obtain ⟨o, ho, _, h2, _⟩ := drawOK_row hdr hxm
      have : m ∈ Region.ready .any ops listed := by
        simp only [Region.ready, List.mem_filter, List.mem_range, Bool.and_eq_true, Bool.not_eq_true', ho, Option.map_some, Option.getD_some, Array.all_eq_true_iff_forall_mem, Bool.or_eq_true]
        refine ⟨hmm.1, hmm.2, fun e he => ?_⟩
        cases hb : Region.binds .any e with
        | false => exact .inl rfl
        | true =>
          right
          have hlt := h2 e he hb
          have hnot : e.on ∉ m :: rem := fun hin => by
            rcases List.mem_cons.1 hin with h | h
            · omega
            · have := (List.pairwise_cons.1 hp).1 _ h; omega
          have hne : ¬ (e.on < ops.size ∧ listed.getD e.on true = false) := fun h => hnot ((hm _).2 h)
          have hsz : e.on < listed.size := by omega
          simp only [Array.getD_eq_getD_getElem?, Array.getElem?_eq_getElem hsz, Option.getD_some] at hne ⊢
          cases hv : listed[e.on] with
          | true => rfl
          | false => exact absurd ⟨by omega, hv⟩ hne
      rw [hr] at this
      cases this
  intro fuel
  induction fuel with
  | zero =>
    intro listed rem g σ a w hl hls hp hm h hA hs
    have hnil : rem = [] := List.eq_nil_of_length_eq_zero hl
    subst hnil
    refine ⟨?_, hK σ hs g a w h⟩
    cases hr : Region.ready .any ops listed with
    | nil => rfl
    | cons i r =>
      have := hready listed [] hm i (by rw [hr]; simp)
      cases this
  | succ fuel ih =>
    intro listed rem g σ a w hl hls hp hm h hA hs
    refine ⟨fun hr => ?_, fun i hi => ?_⟩
    · have := hdone listed rem hls hp hm hr
      subst this
      exact hK σ hs g a w h
    · have hir := hready listed rem hm i hi
      obtain ⟨pre, post, rfl⟩ := List.append_of_mem hir
      have him := (hm i).1 hir
      have hxi : xs[i]? = some (xs[i]'(by omega)) := List.getElem?_eq_getElem _
      obtain ⟨o, ho, hd, h2, h3⟩ := drawOK_row hdr hxi
      have hco := hget i _ o hxi (by simpa using ho)
      have hpre : ∀ j ∈ pre, j < i := fun j hj => (List.pairwise_append.1 hp).2.2 j hj i (by simp)
      have hfm : (pre ++ i :: post).filterMap (xs[·]?) = pre.filterMap (xs[·]?) ++ xs[i]'(by omega) :: post.filterMap (xs[·]?) := by
        rw [List.filterMap_append, List.filterMap_cons, hxi]
      rw [hfm] at hs
      have hb := bring G hd.1 hd.2 (pre.filterMap (xs[·]?)) (post.filterMap (xs[·]?)) (fun y hy => by
        obtain ⟨j, hj, hyj⟩ := List.mem_filterMap.1 hy
        obtain ⟨oj, _, hdj, _, _⟩ := drawOK_row hdr hyj
        refine ⟨hdj.1, hdj.2, ?_⟩
        rcases h3 j y (hpre j hj) hyj with hpd | hin
        · exfalso
          simp only [predOf, List.any_eq_true, Bool.and_eq_true] at hpd
          obtain ⟨e, he, hbd, hon⟩ := hpd
          have hon := Nat.eq_of_beq_eq_true hon
          have hjm := (hm j).1 (by simp [hj])
          simp only [Region.ready, List.mem_filter, List.mem_range, Bool.and_eq_true, Bool.not_eq_true', ho, Option.map_some, Option.getD_some, Array.all_eq_true_iff_forall_mem, Bool.or_eq_true] at hi
          have hl2 := hi.2.2 e (Array.mem_toList_iff.1 he)
          rw [hbd] at hl2
          rcases hl2 with hl2 | hl2
          · cases hl2
          · rw [hon] at hl2
            have hsz : j < listed.size := by omega
            simp only [Array.getD_eq_getD_getElem?, Array.getElem?_eq_getElem hsz, Option.getD_some] at hl2 hjm
            rw [hl2] at hjm
            cases hjm.2
        · exact hin) hA hs
      refine oper_told h hco ho hG hb fun σ' hk g' a' w' hr => ?_
      refine ih (listed.setIfInBounds i true) (pre ++ post) g' σ' a' w' (by simp at hl ⊢; omega) (by simpa using hls) ?_ (fun j => ?_) hr hk.2 (by rw [List.filterMap_append]; exact hk.1)
      · obtain ⟨p1, p2, p3⟩ := List.pairwise_append.1 hp
        exact List.pairwise_append.2 ⟨p1, (List.pairwise_cons.1 p2).2, fun x hx y hy => p3 x hx y (by simp [hy])⟩
      · have hnin : i ∉ pre ++ post := fun hin => by
          rcases List.mem_append.1 hin with hin | hin
          · exact absurd (hpre i hin) (Nat.lt_irrefl _)
          · have := (List.pairwise_cons.1 (List.pairwise_append.1 hp).2.1).1 i hin
            omega
        have hset : (listed.setIfInBounds i true).getD j true = if i = j then true else listed.getD j true := by
          simp only [Array.getD_eq_getD_getElem?, Array.getElem?_setIfInBounds]
          by_cases hij : i = j
          · subst hij
            have : i < listed.size := by omega
            simp [this]
          · simp [hij]
        rw [hset]
        by_cases hij : i = j
        · subst hij
          simp only [if_true]
          exact ⟨fun hin => absurd hin hnin, fun hh => by cases hh.2⟩
        · rw [if_neg hij, ← hm j]
          simp only [List.mem_append, List.mem_cons]
          constructor
          · rintro (h | h)
            · exact .inl h
            · exact .inr (.inr h)
          · rintro (h | h | h)
            · exact .inl h
            · exact absurd h.symm hij
            · exact .inr h

/-! code -/
def chkC (P : Program) : Code → AC → Bool
  | c, .frz _ _ x => chkC P c x
  | c, .lab _ _ x => chkC P c x
  | .scope a, .scope x => chkC P a x
  | .label _, .skip => true
  | .skip, .skip => true
  | .region _ ops draw, .reg xs => !draw && chkOpers P ops xs ops.toList
  | .region _ ops draw, .drw xs ps => draw && chkOpers P ops xs ops.toList && drawOK P ps ops xs
  | .seq a b, .seq x y => chkC P a x && chkC P b y
  | .cond c a b, .cond d x y => chkArg d c && chkC P a x && chkC P b y
  | .block i a, .block j x => Nat.beq i j && chkC P a x
  | .loop a, .loop _ _ x => chkC P a x
  | .exit i, .exit j => Nat.beq i j
  | .ret, .ret => true
  | .goto i, .goto j => Nat.beq i j
  | .seq (.region _ o1 false) (.region _ o2 false), .cpy es bytes zero off p x d1 d2 d3 d4 d5 d6 d7 d8 => cpyOK P es bytes zero off p x d1 d2 d3 d4 d5 d6 d7 d8 o1.toList o2.toList
  | .region _ o1 false, .grw pre d n _ es bytes y post => grwOK P o1 pre d n es bytes y post
  | .region _ o1 false, .mkm d m => mkmOK P d m o1.toList
  | .region _ o1 false, .minc m k d1 d2 d3 d4 => mincOK P m k d1 d2 d3 d4 o1.toList
  | .region _ o1 false, .mget m k d1 d2 d3 d4 => mgetOK P m k d1 d2 d3 d4 o1.toList
  | .scope a, .gsc x l1 _ _ r1 l2 _ _ r2 => chkC P a x && (match findLabel a l1 with | some y => chkC P y r1 | none => false) && (match findLabel a l2 with | some y => chkC P y r2 | none => false)
  | _, _ => false

def AX.exit' : AX → Exit
  | .normal => .normal
  | .exit i => .exit i
  | .ret => .ret
  | .goto l => .goto l

/-- as Q, but what holds at a jump is J -/
def Exit.jmps (J : Nat → Act → World → Prop) (Q : Exit → Act → World → Prop) : Exit → Act → World → Prop
  | .goto l, a, w => J l a w
  | e, a, w => Q e a w
/-- a scope whose jumps, to whatever labels, come to an end -/
theorem wp_scope_tree {P : Program} {c : Code} {Q : Exit → Act → World → Prop} {a : Act} {w : World} (T : Nat → Nat → Act → World → Prop)
    (step : ∀ n l a w, T n l a w → ∃ rest, findLabel c l = some rest ∧ rest.wp P (Exit.jmps (fun l' a' w' => ∃ m, m < n ∧ T m l' a' w') Q) a w)
    (first : c.wp P (Exit.jmps (fun l' a' w' => ∃ m, T m l' a' w') Q) a w) : (Code.scope c).wp P Q a w := by
  intro b k cs
  have hg : ∀ l rest, findLabel c l = some rest → gotoIn l (.inScope c :: k) = some (.code rest :: .inScope c :: k) := fun l rest hf => by simp [gotoIn, hf]
  have key : ∀ n l a w rest, T n l a w → findLabel c l = some rest → ∃ e a' w', Q e a' w' ∧ Arrives P (lone (b.at a (.code rest :: .inScope c :: k)) cs w) b k cs e a' w' := by
    intro n
    induction n using Nat.strongRecOn with
    | _ n ih =>
      intro l a w rest hT hf
      obtain ⟨rest', hf', hwp⟩ := step n l a w hT
      rw [hf] at hf'
      obtain rfl := Option.some.inj hf'
      obtain ⟨e, a₁, w₁, hq, harr⟩ := hwp b (.inScope c :: k) cs
      cases e with
      | normal => exact ⟨.normal, a₁, w₁, hq, Steps.trans harr (.one step_inScope)⟩
      | exit id => exact ⟨.exit id, a₁, w₁, hq, fun k' hk => harr k' (by simp [exitTo, hk])⟩
      | goto l' =>
        obtain ⟨m, hlt, hT'⟩ := hq
        obtain ⟨rest₂, hf₂, _⟩ := step m l' _ _ hT'
        obtain ⟨e₂, a₂, w₂, hq₂, harr₂⟩ := ih m hlt l' a₁ w₁ rest₂ hT' hf₂
        exact ⟨e₂, a₂, w₂, hq₂, .of_steps (harr _ (hg l' rest₂ hf₂)) harr₂⟩
      | ret => exact ⟨_, a₁, w₁, hq, harr⟩
      | panic ch => exact ⟨_, a₁, w₁, hq, harr⟩
      | outgrown => exact ⟨_, a₁, w₁, hq, harr⟩
  obtain ⟨e, a₁, w₁, hq, harr⟩ := first b (.inScope c :: k) cs
  cases e with
  | normal => exact ⟨.normal, a₁, w₁, hq, .head step_scope (Steps.trans harr (.one step_inScope))⟩
  | exit id => exact ⟨.exit id, a₁, w₁, hq, fun k' hk => .head step_scope (harr k' (by simp [exitTo, hk]))⟩
  | goto l' =>
    obtain ⟨m, hT'⟩ := hq
    obtain ⟨rest₂, hf₂, _⟩ := step m l' _ _ hT'
    obtain ⟨e₂, a₂, w₂, hq₂, harr₂⟩ := key m l' a₁ w₁ rest₂ hT' hf₂
    exact ⟨e₂, a₂, w₂, hq₂, .of_steps (.head step_scope (harr _ (hg l' rest₂ hf₂))) harr₂⟩
  | ret => exact ⟨_, a₁, w₁, hq, .of_steps (.one step_scope) harr⟩
  | panic ch => exact ⟨_, a₁, w₁, hq, .of_steps (.one step_scope) harr⟩
  | outgrown => exact ⟨_, a₁, w₁, hq, .of_steps (.one step_scope) harr⟩

theorem clear_get : ∀ (cl : List Bool) (v : List AV) (t : Nat), (clrM cl v).getD t .top = .top ∨ (clrM cl v).getD t .top = v.getD t .top
  | [], _, _ => .inr rfl
  | _ :: _, [], _ => .inl rfl
  | true :: _, _ :: _, 0 => .inl rfl
  | false :: _, _ :: _, 0 => .inr rfl
  | true :: m, _ :: v, t + 1 => clear_get m v t
  | false :: m, _ :: v, t + 1 => clear_get m v t
theorem clear_len : ∀ (cl : List Bool) (v : List AV), (clrM cl v).length = v.length
  | [], _ => rfl
  | _ :: _, [] => rfl
  | true :: m, _ :: v => congrArg Nat.succ (clear_len m v)
  | false :: m, _ :: v => congrArg Nat.succ (clear_len m v)
theorem clearB_get (cb : List Nat) : ∀ (v : List (Option Box)) (b : Nat) (x : Box), (cb.foldl (fun v t => v.set t none) v)[b]? = some (some x) → v[b]? = some (some x) := by
  induction cb with
  | nil => intro v b x h; exact h
  | cons c cb ih =>
    intro v b x h
    have := ih _ _ _ h
    rw [List.getElem?_set] at this
    split at this
    · split at this <;> cases this
    · exact this

theorem Rel.clear (h : Rel g w0 I0 σ a w) {cl : List Bool} {cb : List Nat} (hok : (σ.clear cl cb).okRefs = true) : Rel g w0 I0 (σ.clear cl cb) a w := by
  refine ⟨h.below, h.size, h.old, h.ex, h.defers, by rw [h.len]; exact (clear_len cl σ.v).symm, fun t => ?_, fun b x hb => h.boxes b x (clearB_get cb σ.b b x hb), fun t b hb => ?_⟩
  · rcases clear_get cl σ.v t with hc | hc
    · have : (σ.clear cl cb).get t = .top := hc
      rw [this]
      exact SlotR.top _ _ _ _
    · have : (σ.clear cl cb).get t = σ.get t := hc
      rw [this]
      exact h.slots t
  · simp only [St.okRefs, List.all_eq_true] at hok
    have hmem : (σ.clear cl cb).get t ∈ (σ.clear cl cb).v := by
      unfold St.get at hb ⊢
      rw [List.getD_eq_getElem?_getD] at hb ⊢
      cases hq : (σ.clear cl cb).v[t]? with
      | none => rw [hq] at hb; cases hb
      | some q => exact List.mem_of_getElem? hq
    have := hok _ hmem
    unfold AV.okRef at this
    rw [hb] at this
    simp only at this
    split at this
    · exact ⟨_, by assumption⟩
    · cases this

theorem weak_get : ∀ (ws : List Nat) (v : List AV) (t : Nat), (ws.foldl (fun v t => v.set t (v.getD t .top).share) v).getD t .top = v.getD t .top ∨ (ws.foldl (fun v t => v.set t (v.getD t .top).share) v).getD t .top = (v.getD t .top).share
  | [], _, _ => .inl rfl
  | c :: ws, v, t => by
    have hone : (v.set c (v.getD c .top).share).getD t .top = v.getD t .top ∨ (v.set c (v.getD c .top).share).getD t .top = (v.getD t .top).share := by
      simp only [List.getD_eq_getElem?_getD, List.getElem?_set]
      by_cases hct : c = t
      · subst hct
        by_cases hlt : c < v.length
        · right; simp [hlt]
        · left; simp [hlt]
      · left; simp [hct]
    have hsh : ∀ a : AV, a.share.share = a.share := fun a => by
      cases a with
      | sl p es xs => cases p <;> rfl
      | _ => rfl
    rw [List.foldl_cons]
    rcases weak_get ws (v.set c (v.getD c .top).share) t with h | h <;> rcases hone with h1 | h1
    · exact .inl (h.trans h1)
    · exact .inr (h.trans h1)
    · exact .inr (by rw [h, h1])
    · exact .inr (by rw [h, h1, hsh])
theorem weak_len : ∀ (ws : List Nat) (v : List AV), (ws.foldl (fun v t => v.set t (v.getD t .top).share) v).length = v.length
  | [], _ => rfl
  | c :: ws, v => by rw [List.foldl_cons, weak_len, List.length_set]
theorem SlotR.share {g : Gh} {w : World} {t : Nat} {a : AV} {v : Value} (h : SlotR g w t a v) : SlotR g w t a.share v := by
  cases a with
  | sl p es xs => exact (LocR.share (L' := .slot t 0) h).slot
  | mp f => exact SlotR.top _ _ _ _
  | _ => exact h
theorem Rel.weak (h : Rel g w0 I0 σ a w) (ws : List Nat) : Rel g w0 I0 (σ.weak ws) a w := by
  refine ⟨h.below, h.size, h.old, h.ex, h.defers, by rw [h.len]; exact (weak_len ws σ.v).symm, fun t => ?_, h.boxes, fun t b hb => ?_⟩
  · rcases weak_get ws σ.v t with hc | hc
    · have : (σ.weak ws).get t = σ.get t := hc
      rw [this]; exact h.slots t
    · have : (σ.weak ws).get t = (σ.get t).share := hc
      rw [this]; exact (h.slots t).share
  · rcases weak_get ws σ.v t with hc | hc
    · have : (σ.weak ws).get t = σ.get t := hc
      rw [this] at hb; exact h.refs t b hb
    · have : (σ.weak ws).get t = (σ.get t).share := hc
      rw [this, AV.ref_share] at hb; exact h.refs t b hb
theorem okRefs_weak {σ : St} {ws : List Nat} (h : (σ.weak ws).okRefs = true) : σ.okRefs = true := by
  simp only [St.okRefs, List.all_eq_true] at h ⊢
  intro a ha
  obtain ⟨t, ht⟩ := List.mem_iff_getElem?.1 ha
  have hg : σ.v.getD t .top = a := by simp [List.getD_eq_getElem?_getD, ht]
  have hlt : t < (σ.weak ws).v.length := by
    show t < (ws.foldl (fun v t => v.set t (v.getD t .top).share) σ.v).length
    rw [weak_len]; exact (List.getElem?_eq_some_iff.1 ht).1
  have hm : (σ.weak ws).v.getD t .top ∈ (σ.weak ws).v := by
    rw [List.getD_eq_getElem?_getD, List.getElem?_eq_getElem hlt]; exact List.getElem_mem _
  have h2 := h _ hm
  rcases weak_get ws σ.v t with hc | hc
  · have hc : (σ.weak ws).v.getD t .top = σ.v.getD t .top := hc
    rw [hc, hg] at h2; exact h2
  · have hc : (σ.weak ws).v.getD t .top = (σ.v.getD t .top).share := hc
    rw [hc, hg] at h2
    unfold AV.okRef at h2 ⊢
    rw [AV.ref_share] at h2
    exact h2
theorem Rel.freeze (h : Rel g w0 I0 σ a w) {t b es off len : Nat} {xs : List (List AV)} (ht : σ.get t = .bsl b es off len) (hb : σ.b[b]? = some (some ⟨false, es, xs⟩)) (hle : off + len ≤ xs.length) (hfl : flatRows xs) :
    ∃ g', Rel g' w0 I0 ⟨(σ.v.map (AV.kill b)).set t (.sl .sh es ((xs.drop off).take len)), σ.b.set b none⟩ a w := by
  have hslot := h.slots t
  rw [ht] at hslot
  have htl : t < σ.v.length := by
    rcases Nat.lt_or_ge t σ.v.length with hlt | hge
    · exact hlt
    · unfold St.get at ht
      rw [List.getD_eq_getElem?_getD, List.getElem?_eq_none hge] at ht
      cases ht
  have key : ∃ g', (∀ c, g'.bx c = g.bx c) ∧ g'.base = g.base ∧ (∀ c o, c < g.base → (g'.I c o ↔ g.I c o)) ∧ (∀ c o, g'.I c o → ∃ u, w.cell? ⟨c, o, none⟩ = some u) ∧ (∀ L, L ≠ .box b → Keep g w g' w L) ∧
      Rd g'.I w (.sl .sh es ((xs.drop off).take len)) (a.tmps.getD t undef) := by
    have hlen : ((xs.drop off).take len).length = len := by simp; omega
    rcases h.boxes b _ hb with hx | ⟨cur, e, hh, hbase, how, hsz, hnI, hxl, hcells⟩
    · have hx : xs = [] := hx
      subst hx
      refine ⟨g, fun _ => rfl, rfl, fun _ _ _ => Iff.rfl, h.ex, fun L _ => ⟨rfl, fun _ _ => rfl, fun _ _ h => h, fun _ _ _ => rfl, fun _ _ h => ⟨h, rfl, fun _ h => h⟩, SzS.refl _⟩, ?_⟩
      have h0 : len = 0 := by simp at hle; omega
      subst h0
      rcases hslot with ⟨cap, hv, _, hcm, _⟩ | ⟨_, base, hv⟩
      · rw [hv]; exact .sl .sh es [] _ cap (fun _ _ => undef) (by simp) hcm (by simp) (by simp) (by simp) (by simp) (by simp)
      · rw [hv]; exact .sl .sh es [] base 0 (fun _ _ => undef) (by simp) (by simp [maxLen]) (by simp) (by simp) (by simp) (by simp) (by simp)
    · simp only at hsz hxl hcells
      let g' : Gh := ⟨g.base, fun c o => g.I c o ∨ (c = g.bx b ∧ o < xs.length * es), g.ow, g.bx⟩
      have hkeep : ∀ L, L ≠ .box b → Keep g w g' w L := fun L hL => ⟨rfl, fun _ _ => rfl, fun _ _ h => .inl h, fun _ _ _ => rfl, fun c _ hc => ⟨hc, rfl, fun o hi => hi.resolve_right fun hx => hL (by rw [← hc, hx.1, how])⟩, SzS.refl _⟩
      refine ⟨g', fun _ => rfl, rfl, fun c o hc => ⟨fun hi => hi.resolve_right fun hx => by omega, .inl⟩, fun c o hi => ?_, hkeep, ?_⟩
      · rcases hi with hi | ⟨rfl, hlt⟩
        · exact h.ex c o hi
        · refine ⟨cur[o]'(by omega), ?_⟩
          rw [cell_of_row w _ _ cur e (0, 0) hh]
          exact Array.getElem?_eq_getElem _
      · rcases hslot with ⟨cap, hv, hc1, hcm, _⟩ | ⟨h0, base, hv⟩
        · rw [hv]
          have hrd : Rd g'.I w (.sl .sh es ((xs.drop off).take len)) (.slice (some ⟨g.bx b, off * es, none⟩) ((xs.drop off).take len).length cap) := by
            refine .sl .sh es _ _ cap (fun j k => (cur[(off + j) * es + k]?).getD undef) (by omega) hcm (by simp) (by simp) (fun x hx => hxl x (List.mem_of_mem_drop (List.mem_of_mem_take hx))) (fun _ => ⟨g.bx b, off * es, rfl, fun j k x c hj hk => ?_⟩) (fun j k x c hj hk => ?_)
            all_goals
              have hjl : j < len := by have := (List.getElem?_eq_some_iff.1 hj).1; rw [hlen] at this; exact this
              rw [List.getElem?_take, if_pos hjl, List.getElem?_drop] at hj
              obtain ⟨u, hu, h1, h2⟩ := hcells _ _ _ _ hj hk
            · have hxl' : x.length = es := hxl x (List.mem_of_getElem? hj)
              have hkl : k < es := by have := (List.getElem?_eq_some_iff.1 hk).1; omega
              have hjx : off + j < xs.length := (List.getElem?_eq_some_iff.1 hj).1
              have e1 : off * es + (j * es + k) = (off + j) * es + k := by rw [Nat.add_mul]; omega
              rw [e1, cell_of_row w _ _ cur e (0, 0) hh, hu]
              refine ⟨.inr ⟨rfl, ?_⟩, rfl, h1⟩
              have : (off + j + 1) * es ≤ xs.length * es := Nat.mul_le_mul_right _ hjx
              rw [Nat.add_mul (off + j)] at this
              omega
            · rw [hu]
              exact h2.1.flat (hfl x (List.mem_of_getElem? hj) c (List.mem_of_getElem? hk)) _ _
          rw [hlen] at hrd
          exact hrd
        · rw [hv]
          subst h0
          exact .sl .sh es [] base 0 (fun _ _ => undef) (by simp) (by simp [maxLen]) (by simp) (by simp) (by simp) (by simp) (by simp)
  obtain ⟨g', hbx, hbase, hold, hex, hkeep, hrd⟩ := key
  have hget : ∀ u, (⟨(σ.v.map (AV.kill b)).set t (.sl .sh es ((xs.drop off).take len)), σ.b.set b none⟩ : St).get u = if t = u then .sl .sh es ((xs.drop off).take len) else (σ.get u).kill b := fun u => by
    unfold St.get
    simp only [List.getD_eq_getElem?_getD, List.getElem?_set, List.getElem?_map, List.length_map]
    by_cases hu : t = u
    · subst hu
      simp [htl]
    · rw [if_neg hu, if_neg hu]
      cases σ.v[u]? <;> rfl
  refine ⟨g', by rw [hbase]; exact h.below, by rw [hbase]; exact h.size, fun c o hc => (hold c o (by rw [← hbase]; exact hc)).trans (h.old c o (by rw [← hbase]; exact hc)), hex, h.defers, by rw [h.len]; simp, fun u => ?_, fun c x hc => ?_, fun u c hc => ?_⟩
  · rw [hget]
    split
    · rename_i hu
      subst hu
      exact hrd.slots (by simp) t
    · rcases kill_ref b (σ.get u) with ⟨hk, hne⟩ | hk
      · rw [hk]
        exact (h.slots u).keep (fun j => hkeep _ (by simp)) (fun c _ => hbx c) (fun c hc hlt => (hkeep (.box c) (by simp; intro he; exact hne (by rw [← he]; exact hc))).ob hlt)
      · rw [hk]
        exact SlotR.top _ _ _ _
  · have hc' : (σ.b.set b none)[c]? = some (some x) := hc
    rw [List.getElem?_set] at hc'
    split at hc'
    · split at hc' <;> cases hc'
    · rename_i hbc
      exact (h.boxes c x hc').keep (hkeep _ (by simp; exact fun he => hbc he.symm)) (fun i k => hkeep _ (by simp))
  · rw [hget] at hc
    split at hc
    · cases hc
    · rcases kill_ref b (σ.get u) with ⟨hk, hne⟩ | hk
      · rw [hk] at hc
        obtain ⟨x, hx⟩ := h.refs u c hc
        refine ⟨x, ?_⟩
        show (σ.b.set b none)[c]? = _
        rw [List.getElem?_set, if_neg (by intro he; subst he; exact hne hc)]
        exact hx
      · rw [hk] at hc
        cases hc

theorem code_told {G : Goods} (hG : ∀ f xs r, G f xs r → Good P f xs r) : ∀ (ac : AC) (c : Code), chkC P c ac = true → ∀ (g : Gh) (σ : St) (a : Act) (w : World) (K : AX → St → Prop) (Q : Exit → Act → World → Prop), Rel g w0 I0 σ a w → evC G ac σ K →
    (∀ e σ', K e σ' → ∀ g' a' w', Rel g' w0 I0 σ' a' w' → Q e.exit' a' w') → c.wp P Q a w
  | .skip, c, hc, g, σ, a, w, K, Q, h, hs, hQ => by
    cases c <;> simp only [chkC, Bool.false_eq_true] at hc
    · exact wp_skip (hQ _ _ hs g a w h)
    · exact wp_label (hQ _ _ hs g a w h)
  | .scope x, c, hc, g, σ, a, w, K, Q, h, hs, hQ => by
    cases c <;> simp only [chkC, Bool.false_eq_true] at hc
    refine wp_scope_straight (code_told hG x _ hc g σ a w _ _ h hs fun e σ' hk g' a' w' hr => ?_)
    cases e with
    | normal => exact hQ _ _ hk g' a' w' hr
    | exit i => exact hQ _ _ hk g' a' w' hr
    | ret => exact hQ _ _ hk g' a' w' hr
    | goto l => exact hk.elim
  | .lab cl cb x, c, hc, g, σ, a, w, K, Q, h, hs, hQ => by
    have hc' : chkC P c x = true := by cases c <;> simpa only [chkC] using hc
    obtain ⟨ws, hok, hs⟩ := hs.out
    exact code_told hG x c hc' g _ a w K Q ((h.clear (okRefs_weak hok)).weak ws) hs hQ
  | .goto l, c, hc, g, σ, a, w, K, Q, h, hs, hQ => by
    cases c <;> simp only [chkC, Bool.false_eq_true] at hc
    have := Nat.eq_of_beq_eq_true hc
    subst this
    exact wp_goto (hQ _ _ hs g a w h)
  | .gsc x l1 cl1 cb1 r1 l2 cl2 cb2 r2, c, hc, g, σ, a, w, K, Q, h, hs, hQ => by
    cases c <;> simp only [chkC, Bool.false_eq_true] at hc
    rename_i c
    simp only [Bool.and_eq_true] at hc
    obtain ⟨⟨hc0, hc1⟩, hc2⟩ := hc
    split at hc1
    · rename_i y1 hy1
      split at hc2
      · rename_i y2 hy2
        refine wp_scope_tree (fun n l a w => ∃ g σ, Rel g w0 I0 σ a w ∧ jmp (evC G r1) (evC G r2) l1 cl1 cb1 l2 cl2 cb2 K n l σ) (fun n l a w ⟨g, σ, h, hj⟩ => ?_)
          (code_told hG x _ hc0 g σ a w _ _ h hs fun e σ' hk g' a' w' hr => ?_)
        · cases n with
          | zero => exact hj.elim
          | succ n =>
            rcases hj with ⟨rfl, ws, hok, hi⟩ | ⟨rfl, ws, hok, hi⟩
            · refine ⟨y1, hy1, code_told hG r1 _ hc1 g _ a w _ _ ((h.clear (okRefs_weak hok)).weak ws) hi fun e σ' hk g' a' w' hr => ?_⟩
              cases e with
              | normal => exact hQ _ _ hk g' a' w' hr
              | exit i => exact hQ _ _ hk g' a' w' hr
              | ret => exact hQ _ _ hk g' a' w' hr
              | goto l => exact ⟨n, by omega, g', σ', hr, hk⟩
            · refine ⟨y2, hy2, code_told hG r2 _ hc2 g _ a w _ _ ((h.clear (okRefs_weak hok)).weak ws) hi fun e σ' hk g' a' w' hr => ?_⟩
              cases e with
              | normal => exact hQ _ _ hk g' a' w' hr
              | exit i => exact hQ _ _ hk g' a' w' hr
              | ret => exact hQ _ _ hk g' a' w' hr
              | goto l => exact ⟨n, by omega, g', σ', hr, hk⟩
        · cases e with
          | normal => exact hQ _ _ hk g' a' w' hr
          | exit i => exact hQ _ _ hk g' a' w' hr
          | ret => exact hQ _ _ hk g' a' w' hr
          | goto l =>
            obtain ⟨m, hm⟩ := hk.out
            exact ⟨m, g', σ', hr, hm⟩
      · cases hc2
    · cases hc1
  | .frz b t x, c, hc, g, σ, a, w, K, Q, h, hs, hQ => by
    have hc' : chkC P c x = true := by cases c <;> simpa only [chkC] using hc
    simp only [evC] at hs
    split at hs
    · rename_i b' es off len ht
      split at hs
      · rename_i es' xs hb
        obtain ⟨rfl, rfl, hle, hfl, hs⟩ := hs
        rw [frc_eq, frcB_eq] at hs
        obtain ⟨g1, h1⟩ := h.freeze ht hb hle hfl
        exact code_told hG x c hc' g1 _ a w K Q h1 hs hQ
      · exact hs.elim
    · exact hs.elim
  | .cpy es bytes zero off p x d1 d2 d3 d4 d5 d6 d7 d8, c, hc, g, σ, a, w, K, Q, h, hs, hQ => by
    unfold chkC at hc
    split at hc <;> first | contradiction | skip
    all_goals try (rename_i heq; cases heq; done)
    rename_i id1 o1 id2 o2 heq
    cases heq
    simp only [evC] at hs
    split at hs
    · rename_i p0 es' ys hx
      split at hs
      · rename_i b es1 i o hp
        split at hs
        · rename_i one es2 xs hb
          split at hs
          · rename_i b1 b2 b3
            have b1 := Nat.eq_of_beq_eq_true b1
            have b2 := Nat.eq_of_beq_eq_true b2
            subst b1; subst b2
            split at hs
            · cases hs
            · rename_i y hy
              split at hs
              · rename_i b4
                obtain ⟨h0, hby, hs⟩ := hs
                rw [frc_eq, frcL_eq] at hs
                have hs := setRow_inv hs
                rw [frcB_eq] at hs
                exact cpy_told h hc hx hp hb (Nat.le_of_ble_eq_true b3) hy (Nat.le_of_ble_eq_true b4) h0 hby (fun g' a' w' hr => hQ _ _ hs g' a' w' hr)
              · cases hs
          · cases hs
        · cases hs
      · cases hs
    · cases hs
  | .mkm d m, c, hc, g, σ, a, w, K, Q, h, hs, hQ => by
    unfold chkC at hc
    split at hc <;> first | contradiction | skip
    all_goals try (rename_i heq; cases heq; done)
    rename_i id1 o1 d' m' heq
    cases heq
    simp only [evC] at hs
    split at hs
    · rename_i b1 b2
      rw [frc_eq] at hs
      exact mkm_told h hc (Nat.le_of_ble_eq_true b1) (Nat.le_of_ble_eq_true b2) (fun g' a' w' hr => hQ _ _ hs g' a' w' hr)
    · cases hs
  | .grw pre d n b es bytes y post, c, hc, g, σ, a, w, K, Q, h, hs, hQ => by
    unfold chkC at hc
    split at hc <;> first | contradiction | skip
    all_goals try (rename_i heq; cases heq; done)
    rename_i id1 o1 _ _ _ _ _ _ _ _ heq
    cases heq
    simp only [evC] at hs
    exact grw_told h hG hc hs (fun σ' hk g' a' w' hr => hQ _ _ hk g' a' w' hr)
  | .minc m k d1 d2 d3 d4, c, hc, g, σ, a, w, K, Q, h, hs, hQ => by
    unfold chkC at hc
    split at hc <;> first | contradiction | skip
    all_goals try (rename_i heq; cases heq; done)
    rename_i id1 o1 _ _ _ _ _ _ heq
    cases heq
    simp only [evC] at hs
    split at hs
    · rename_i f hm
      split at hs
      · rename_i s hk
        split at hs
        · rename_i b1
          rw [frc_eq] at hs
          exact minc_told h hc hm hk (Nat.le_of_ble_eq_true b1) (fun g' a' w' hr => hQ _ _ hs g' a' w' hr)
        · cases hs
      · cases hs
    · cases hs
  | .mget m k d1 d2 d3 d4, c, hc, g, σ, a, w, K, Q, h, hs, hQ => by
    unfold chkC at hc
    split at hc <;> first | contradiction | skip
    all_goals try (rename_i heq; cases heq; done)
    rename_i id1 o1 _ _ _ _ _ _ heq
    cases heq
    simp only [evC] at hs
    split at hs
    · rename_i f hm
      split at hs
      · rename_i s hk
        split at hs
        · rename_i b1
          rw [frc_eq] at hs
          exact mget_told h hc hm hk (Nat.le_of_ble_eq_true b1) (fun g' a' w' hr => hQ _ _ hs g' a' w' hr)
        · cases hs
      · cases hs
    · cases hs
  | .reg xs, c, hc, g, σ, a, w, K, Q, h, hs, hQ => by
    cases c <;> simp only [chkC, Bool.false_eq_true] at hc
    rename_i id ops draw
    simp only [Bool.and_eq_true, Bool.not_eq_true'] at hc
    obtain ⟨hd, hc⟩ := hc
    subst hd
    obtain ⟨hl, hg⟩ := chkOpers_get hc
    refine wp_region ?_
    have := reg_told (P := P) (ops := ops) (w0 := w0) (I0 := I0) hG (Q := Q) (K := K .normal) (fun σ' hk g' a' w' hr => hQ _ _ hk g' a' w' hr) xs 0 g σ a w (fun i x hx => by
      have hlt : i < xs.length := (List.getElem?_eq_some_iff.1 hx).1
      have ho : ops.toList[i]? = some (ops.toList[i]'(by omega)) := List.getElem?_eq_getElem _
      exact ⟨_, by rw [Nat.zero_add]; simp, hg i x _ hx ho⟩) h hs
    rw [List.range_eq_range', show ops.size = xs.length by rw [hl]; simp]
    exact this
  | .drw xs ps, c, hc, g, σ, a, w, K, Q, h, hs, hQ => by
    cases c <;> simp only [chkC, Bool.false_eq_true] at hc
    rename_i id ops draw
    simp only [Bool.and_eq_true] at hc
    obtain ⟨⟨hd, hc⟩, hdr⟩ := hc
    subst hd
    obtain ⟨hl, hg⟩ := chkOpers_get hc
    have hm : P.follows .mixedOrders = true := by simp only [drawOK, Bool.and_eq_true] at hdr; exact hdr.1
    refine wp_region_any hm ?_
    have hlx : xs.length = ops.size := by simpa using hl
    refine drw_told (w0 := w0) (I0 := I0) hG hc hdr (K := K .normal) (fun σ' hk g' a' w' hr => hQ _ _ hk g' a' w' hr) ops.size _ (List.range ops.size) g σ a _ (by simp) (by simp) List.pairwise_lt_range (fun i => ?_) h.drew (apart_inv hs.1) ?_
    · simp only [List.mem_range, Array.getD_eq_getD_getElem?]
      constructor
      · intro hi; exact ⟨hi, by simp [hi]⟩
      · exact fun hi => hi.1
    · have : (List.range ops.size).filterMap (xs[·]?) = xs := by
        rw [← hlx]
        clear hs hdr hc hl hg hlx
        induction xs with
        | nil => rfl
        | cons x xs ih => rw [List.length_cons, List.range_succ_eq_map, List.filterMap_cons, List.filterMap_map]; simp only [List.getElem?_cons_zero]; congr 1
      rw [this]
      exact hs.2
  | .seq x y, c, hc, g, σ, a, w, K, Q, h, hs, hQ => by
    cases c <;> simp only [chkC, Bool.false_eq_true] at hc
    simp only [Bool.and_eq_true] at hc
    refine wp_seq (code_told hG x _ hc.1 g σ a w _ _ h hs fun e σ' hk g' a' w' hr => ?_)
    cases e with
    | normal => exact code_told hG y _ hc.2 g' σ' a' w' K Q hr hk hQ
    | exit i => exact hQ _ _ hk g' a' w' hr
    | ret => exact hQ _ _ hk g' a' w' hr
    | goto l => exact hQ _ _ hk g' a' w' hr
  | .cond d x y, c, hc, g, σ, a, w, K, Q, h, hs, hQ => by
    cases c <;> simp only [chkC, Bool.false_eq_true] at hc
    simp only [Bool.and_eq_true] at hc
    obtain ⟨⟨h1, h2⟩, h3⟩ := hc
    obtain ⟨t, ht⟩ := h.arg h1
    simp only [evC] at hs
    split at hs
    · rename_i b hb
      rw [hb] at ht
      refine wp_cond ht.bool_inv ?_
      have lit : ∀ v, d.ev σ.get = .bool v → (⟨d.lit σ v, σ.b⟩ : St) = σ := fun v hv => by
        cases d with
        | t n => exact St.set_self (σ := σ) hv
        | c _ => rfl
      cases b with
      | true =>
        have hs := hs.1 rfl
        rw [frc_eq, lit _ hb] at hs
        exact code_told hG x _ h2 g σ a w K Q h hs hQ
      | false =>
        have hs := hs.2 rfl
        rw [frc_eq, lit _ hb] at hs
        exact code_told hG y _ h3 g σ a w K Q h hs hQ
    · exact hs.elim
  | .block id x, c, hc, g, σ, a, w, K, Q, h, hs, hQ => by
    cases c <;> simp only [chkC, Bool.false_eq_true] at hc
    simp only [Bool.and_eq_true] at hc
    have := Nat.eq_of_beq_eq_true hc.1
    subst this
    refine wp_block (code_told hG x _ hc.2 g σ a w _ _ h hs fun e σ' hk g' a' w' hr => ?_)
    cases e with
    | normal => exact hQ _ _ hk g' a' w' hr
    | exit i =>
      simp only [kBlk] at hk
      show (if i = _ then _ else _)
      split at hk
      · rename_i hi
        rw [if_pos (Nat.eq_of_beq_eq_true hi)]
        exact hQ _ _ hk g' a' w' hr
      · rename_i hi
        rw [if_neg (fun he => by subst he; simp at hi)]
        exact hQ _ _ hk g' a' w' hr
    | ret => exact hQ _ _ hk g' a' w' hr
    | goto l => exact hQ _ _ hk g' a' w' hr
  | .loop cl cb x, c, hc, g, σ, a, w, K, Q, h, hs, hQ => by
    cases c <;> simp only [chkC, Bool.false_eq_true] at hc
    rename_i c
    obtain ⟨n, hn⟩ := hs.out
    intro b k cs
    have key : ∀ n g σ a w, Rel g w0 I0 σ a w → iter (evC G x) cl cb n σ K → ∃ e a' w', Q e a' w' ∧ Arrives P (lone (b.at a (.code c :: .inLoop c :: k)) cs w) b k cs e a' w' := by
      intro n
      induction n with
      | zero => intro g σ a w _ hi; exact hi.elim
      | succ n ih =>
        intro g σ a w h hi
        obtain ⟨ws, hok, hi⟩ := hi
        have hwp := code_told hG x c hc g _ a w _ (Exit.then (fun a' w' => ∃ e a2 w2, Q e a2 w2 ∧ Arrives P (lone (b.at a' (.code c :: .inLoop c :: k)) cs w') b k cs e a2 w2) Q) ((h.clear (okRefs_weak hok)).weak ws) hi (fun e σ' hk g' a' w' hr => by
          cases e with
          | normal => exact ih g' σ' a' w' hr hk
          | exit i => exact hQ _ _ hk g' a' w' hr
          | ret => exact hQ _ _ hk g' a' w' hr
          | goto l => exact hQ _ _ hk g' a' w' hr)
        obtain ⟨e, a₁, w₁, hq, harr⟩ := hwp b (.inLoop c :: k) cs
        cases e with
        | normal =>
          obtain ⟨e₂, a₂, w₂, hq₂, harr₂⟩ := hq
          exact ⟨e₂, a₂, w₂, hq₂, .of_steps (Steps.trans harr (.one step_inLoop)) harr₂⟩
        | exit id => exact ⟨_, a₁, w₁, hq, .pass (x := .inLoop c) rfl (fun _ _ => .inl (by simp)) harr⟩
        | goto l => exact ⟨_, a₁, w₁, hq, .pass (x := .inLoop c) rfl (fun _ _ => .inl (by simp)) harr⟩
        | ret => exact ⟨_, a₁, w₁, hq, .pass (x := .inLoop c) rfl (fun _ _ => .inl (by simp)) harr⟩
        | panic ch => exact ⟨_, a₁, w₁, hq, .pass (x := .inLoop c) rfl (fun _ _ => .inl (by simp)) harr⟩
        | outgrown => exact ⟨_, a₁, w₁, hq, .pass (x := .inLoop c) rfl (fun _ _ => .inl (by simp)) harr⟩
    obtain ⟨e, a', w', hq, harr⟩ := key n g σ a w h hn
    exact ⟨e, a', w', hq, .of_steps (.one step_loop) harr⟩
  | .exit i, c, hc, g, σ, a, w, K, Q, h, hs, hQ => by
    cases c <;> simp only [chkC, Bool.false_eq_true] at hc
    have := Nat.eq_of_beq_eq_true hc
    subst this
    exact wp_exit (hQ _ _ hs g a w h)
  | .ret, c, hc, g, σ, a, w, K, Q, h, hs, hQ => by
    cases c <;> simp only [chkC, Bool.false_eq_true] at hc
    exact wp_ret (hQ _ _ hs g a w h)
end
end Go.Proofs.Ytfkihagcgjombaa

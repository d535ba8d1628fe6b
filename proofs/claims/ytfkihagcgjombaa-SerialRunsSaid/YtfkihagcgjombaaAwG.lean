/- Operations whose order is open: what each looks at, and that it leaves the same whenever it comes. No program's fact stands here. -/
import Derived.Test.YtfkihagcgjombaaAwF
namespace Go.Proofs.Ytfkihagcgjombaa
open Go.RowKit

def Arg.temps : Arg → List Nat
  | .t n => [n]
  | .c _ => []
def otemps : Option Arg → List Nat
  | none => []
  | some x => x.temps
def ltemps : List Arg → List Nat
  | [] => []
  | x :: r => x.temps ++ ltemps r

/-- may it stand in a region whose order is open -/
def AOp.dOK : AOp → Bool
  | .cp _ | .pick .. | .bin .. | .eqA .. | .eqB .. | .un .. | .ld .. | .fa .. | .ia .. | .ixS .. | .ixA .. | .fld .. | .sub .. | .subS .. | .ext .. | .call .. | .len _ | .lenS _ | .st .. | .bld .. | .ldr .. | .sto .. | .iaE .. | .iaR .. | .tk .. | .extt .. | .app .. | .appS .. | .bs .. | .mk .. | .cv .. | .mm .. | .bad => true
  | .ldt .. | .stt .. => true
  | _ => false
def AOp.wrB : AOp → Bool
  | .st .. => true
  | .ldt .. => true
  | .stt .. => true
  | .sto .. => true
  | _ => false
def AOp.rdB : AOp → Bool
  | .ld .. => true
  | .st .. => true
  | .ldt .. => true
  | .stt .. => true
  | .ldr .. => true
  | .sto .. => true
  | _ => false
def AOp.temps : AOp → List Nat
  | .cp x | .un _ x | .cv _ x | .len x | .lenS x | .ld _ x | .ldr _ x | .fa _ x | .fld _ _ x | .ext x _ => x.temps
  | .pick c x y => c.temps ++ x.temps ++ y.temps
  | .bin _ x y | .eqA _ _ x y | .eqB _ x y | .ia _ _ x y | .iaE _ x y | .iaR _ _ x y | .ixS x y | .ixA _ x y | .st _ x y | .sto _ x y => x.temps ++ y.temps
  | .sub _ x l h m => x.temps ++ otemps l ++ otemps h ++ otemps m
  | .subS x l h => x.temps ++ otemps l ++ otemps h
  | .call _ xs => ltemps xs
  | .bld _ ps => ltemps (ps.map fun p => p.2.2)
  | .tk n | .extt n _ => [n]
  | .app _ _ x y | .appS _ x y => x.temps ++ y.temps
  | .bs _ xs | .mm _ xs => ltemps xs
  | .mk _ _ _ l c => l.temps ++ c.temps
  | .ldt p => p.temps
  | .stt p n => p.temps ++ [n]
  | _ => []
/-- the temporary, beside its own, that it leaves otherwise -/
def AOp.mod : AOp → Option Nat
  | .tk n | .extt n _ | .stt _ n => some n
  | .app _ _ (.t n) _ | .appS _ (.t n) _ => some n
  | _ => none
/-- where what it leaves points to: into no box, or the box of a temporary; none: it is not said -/
def AOp.src : AOp → Option (Option Nat)
  | .fa _ (.t s) => some (some s)
  | .cp (.t s) => some (some s)
  | .ia _ (some _) (.t s) _ => some (some s)
  | .iaE .. => some none
  | .iaR _ _ (.t s) _ => some (some s)
  | _ => none
theorem AOp.mod_temps {o : AOp} {n : Nat} (h : o.mod = some n) : n ∈ o.temps := by
  unfold AOp.mod at h
  split at h <;> cases h <;> simp [AOp.temps, Arg.temps]

theorem Arg.ev_congr {g g' : Nat → AV} : ∀ {x : Arg}, (∀ t ∈ x.temps, g t = g' t) → x.ev g = x.ev g'
  | .t n, h => h n (by simp [Arg.temps])
  | .c a, _ => rfl
theorem ltemps_congr {g g' : Nat → AV} {β : Type} (f : AV → β) : ∀ {xs : List Arg}, (∀ t ∈ ltemps xs, g t = g' t) → xs.map (fun x => f (x.ev g)) = xs.map (fun x => f (x.ev g'))
  | [], _ => rfl
  | x :: xs, h => by
    simp only [ltemps, List.mem_append] at h
    simp only [List.map_cons]
    rw [Arg.ev_congr (x := x) fun t ht => h t (.inl ht), ltemps_congr f fun t ht => h t (.inr ht)]
theorem otemps_congr {g g' : Nat → AV} {x : Option Arg} (h : ∀ t ∈ otemps x, g t = g' t) : x.map (fun x => x.ev g) = x.map (fun x => x.ev g') := by
  cases x with
  | none => rfl
  | some x => simp only [Option.map_some]; rw [Arg.ev_congr h]

theorem sem_congr (G : Goods) (ao : AOp) (hd : ao.dOK = true) {g g' : Nat → AV} {bs bs' : List (Option Box)} (h : ∀ t ∈ ao.temps, g t = g' t) (hb : ao.rdB = true → bs = bs') (K : Cont) : ao.sem G g bs K = ao.sem G g' bs' K := by
  cases ao <;> simp only [AOp.dOK, Bool.false_eq_true] at hd <;> simp only [AOp.temps, List.mem_append] at h
  case cp x =>
    cases x with
    | t n => show K (g n).cpy none none = K (g' n).cpy none none; rw [h n (by simp [Arg.temps])]
    | c a => rfl
  case pick c x y =>
    simp only [AOp.sem]
    rw [Arg.ev_congr (x := c) fun t ht => h t (.inl (.inl ht)), Arg.ev_congr (x := x) fun t ht => h t (.inl (.inr ht)), Arg.ev_congr (x := y) fun t ht => h t (.inr ht)]
  case bin op x y => simp only [AOp.sem]; rw [Arg.ev_congr (x := x) fun t ht => h t (.inl ht), Arg.ev_congr (x := y) fun t ht => h t (.inr ht)]
  case eqA ne ks x y => simp only [AOp.sem]; rw [Arg.ev_congr (x := x) fun t ht => h t (.inl ht), Arg.ev_congr (x := y) fun t ht => h t (.inr ht)]
  case eqB ne x y => simp only [AOp.sem]; rw [Arg.ev_congr (x := x) fun t ht => h t (.inl ht), Arg.ev_congr (x := y) fun t ht => h t (.inr ht)]
  case un op x => simp only [AOp.sem]; rw [Arg.ev_congr (x := x) h]
  case cv c x => simp only [AOp.sem]; rw [Arg.ev_congr (x := x) h]
  case ld n p => have := hb rfl; subst this; simp only [AOp.sem]; rw [Arg.ev_congr (x := p) h]
  case st n p x => have := hb rfl; subst this; simp only [AOp.sem]; rw [Arg.ev_congr (x := p) fun t ht => h t (.inl ht), Arg.ev_congr (x := x) fun t ht => h t (.inr ht)]
  case tk n => simp only [AOp.sem]; rw [h n (by simp)]
  case ldt p => have := hb rfl; subst this; simp only [AOp.sem]; rw [Arg.ev_congr (x := p) h]
  case stt p n => have := hb rfl; subst this; simp only [AOp.sem]; rw [Arg.ev_congr (x := p) fun t ht => h t (.inl ht), h n (.inr (by simp))]
  case extt n i => simp only [AOp.sem]; rw [h n (by simp)]
  case app es bytes x y => simp only [AOp.sem]; rw [Arg.ev_congr (x := x) fun t ht => h t (.inl ht), Arg.ev_congr (x := y) fun t ht => h t (.inr ht)]
  case appS bytes x y => simp only [AOp.sem]; rw [Arg.ev_congr (x := x) fun t ht => h t (.inl ht), Arg.ev_congr (x := y) fun t ht => h t (.inr ht)]
  case bs es xs => simp only [AOp.sem]; rw [ltemps_congr (fun v => v) h]
  case mk es bytes zero l c => simp only [AOp.sem]; rw [Arg.ev_congr (x := l) fun t ht => h t (.inl ht), Arg.ev_congr (x := c) fun t ht => h t (.inr ht)]
  case mm mx xs =>
    simp only [AOp.sem]
    cases xs with
    | nil => rfl
    | cons x r =>
      simp only [ltemps, List.mem_append] at h
      show foldMM mx (x.ev g) (r.map (·.ev g)) _ = foldMM mx (x.ev g') (r.map (·.ev g')) _
      rw [Arg.ev_congr (x := x) fun t ht => h t (.inl ht)]
      have := ltemps_congr (fun v => v) (xs := r) fun t ht => h t (.inr ht)
      rw [this]
  case ldr n p => have := hb rfl; subst this; simp only [AOp.sem]; rw [Arg.ev_congr (x := p) h]
  case sto n p x => have := hb rfl; subst this; simp only [AOp.sem]; rw [Arg.ev_congr (x := p) fun t ht => h t (.inl ht), Arg.ev_congr (x := x) fun t ht => h t (.inr ht)]
  case fa off p => simp only [AOp.sem]; rw [Arg.ev_congr (x := p) h]
  case ia es n x i => simp only [AOp.sem]; rw [Arg.ev_congr (x := x) fun t ht => h t (.inl ht), Arg.ev_congr (x := i) fun t ht => h t (.inr ht)]
  case iaE es x i => simp only [AOp.sem]; rw [Arg.ev_congr (x := x) fun t ht => h t (.inl ht), Arg.ev_congr (x := i) fun t ht => h t (.inr ht)]
  case iaR es n x i => simp only [AOp.sem]; rw [Arg.ev_congr (x := x) fun t ht => h t (.inl ht), Arg.ev_congr (x := i) fun t ht => h t (.inr ht)]
  case ixS x i => simp only [AOp.sem]; rw [Arg.ev_congr (x := x) fun t ht => h t (.inl ht), Arg.ev_congr (x := i) fun t ht => h t (.inr ht)]
  case ixA n x i => simp only [AOp.sem]; rw [Arg.ev_congr (x := x) fun t ht => h t (.inl ht), Arg.ev_congr (x := i) fun t ht => h t (.inr ht)]
  case fld off n x => simp only [AOp.sem]; rw [Arg.ev_congr (x := x) h]
  case sub es x lo hi mx =>
    simp only [AOp.sem]
    rw [Arg.ev_congr (x := x) fun t ht => h t (.inl (.inl (.inl ht))), otemps_congr (x := lo) fun t ht => h t (.inl (.inl (.inr ht))), otemps_congr (x := hi) fun t ht => h t (.inl (.inr ht))]
    cases mx with
    | none => rfl
    | some m =>
      have e1 : m.ev g = m.ev g' := Arg.ev_congr (x := m) fun t ht => h t (.inr ht)
      simp only [e1]
  case subS x lo hi =>
    simp only [AOp.sem]
    rw [Arg.ev_congr (x := x) fun t ht => h t (.inl (.inl ht)), otemps_congr (x := lo) fun t ht => h t (.inl (.inr ht)), otemps_congr (x := hi) fun t ht => h t (.inr ht)]
  case bld zero ps =>
    simp only [AOp.sem]
    have e1 : (ps.map fun p => p.2.2.ev g) = ps.map fun p => p.2.2.ev g' := by
      have := ltemps_congr (fun v => v) (xs := ps.map fun p => p.2.2) h
      simpa [List.map_map] using this
    have e2 : (ps.map fun p => (p.1, p.2.1, p.2.2.ev g)) = ps.map fun p => (p.1, p.2.1, p.2.2.ev g') := by
      apply List.map_congr_left
      intro p hp
      have : p.2.2.ev g = p.2.2.ev g' := List.map_inj_left.1 e1 p hp
      rw [this]
    rw [e1, e2]
  case ext x i => simp only [AOp.sem]; rw [Arg.ev_congr (x := x) h]
  case call f xs => simp only [AOp.sem]; rw [ltemps_congr (fun v => v) h, ltemps_congr AV.shr h]
  case len x => simp only [AOp.sem]; rw [Arg.ev_congr (x := x) h]
  case lenS x => simp only [AOp.sem]; rw [Arg.ev_congr (x := x) h]
  case bad => rfl

/-- just this is left -/
def Only (v : AV) (bx : Option (Nat × Option Box)) : Cont := fun v' ts' bx' => v' = v ∧ ts' = none ∧ bx' = bx
theorem Only.self (v : AV) (bx : Option (Nat × Option Box)) : Only v bx v none bx := ⟨rfl, rfl, rfl⟩

theorem binK_dec {op : BinOp} {x y : AV} {K : AV → Prop} (h : binK op x y K) : ∃ v, (∀ K' : AV → Prop, K' v → binK op x y K') ∧ K v := by
  unfold binK at h
  split at h
  · split at h
    · split at h
      · exact ⟨_, fun K' hk => ⟨h.1, hk⟩, h.2⟩
      · exact ⟨_, fun K' hk => ⟨h.1, hk⟩, h.2⟩
      · rename_i op _ _ _ h1 h2
        split at h
        · rename_i hkk
          subst hkk
          unfold binInt at h
          split at h <;> first
            | exact ⟨_, fun K' hk => by simp only [binK, if_true, binInt]; exact hk, h⟩
            | exact ⟨_, fun K' hk => by simp only [binK, if_true, binInt]; exact ⟨h.1, hk⟩, h.2⟩
            | exact h.elim
        · exact h.elim
    · exact h.elim
  · split at h
    · split at h
      · exact ⟨_, fun K' hk => ⟨h.1, hk⟩, h.2⟩
      · exact ⟨_, fun K' hk => hk, h⟩
      · exact ⟨_, fun K' hk => hk, h⟩
      · exact ⟨_, fun K' hk => hk, h⟩
      · exact h.elim
    · exact h.elim
  · exact h.elim
theorem asI_dec {x : AV} {K : Int → Prop} (h : asI x K) : ∃ i, (∀ K' : Int → Prop, K' i → asI x K') ∧ K i := by
  obtain ⟨k, i, rfl, hk⟩ := asI_inv h
  exact ⟨i, fun K' h => h, hk⟩
theorem optI_dec {x : Option AV} {d : Int} {K : Int → Prop} (h : optI x d K) : ∃ i, (∀ K' : Int → Prop, K' i → optI x d K') ∧ K i := by
  cases x with
  | none => exact ⟨d, fun K' h => h, h⟩
  | some x => exact asI_dec h

theorem setRow_dec {xs : List (List AV)} {i : Nat} {y : List AV} {K : List (List AV) → Prop} {one : Bool} (h : setRow xs i y K one) : (∀ K' : List (List AV) → Prop, K' (xs.set i y) → setRow xs i y K' one) ∧ K (xs.set i y) := by
  unfold setRow at h
  split at h
  · exact ⟨fun K' hk => hk, h⟩
  · split at h
    · split at h
      · exact ⟨fun K' hk => hk, h⟩
      · exact h.elim
    · exact h.elim
theorem foldMM_dec {mx : Bool} : ∀ {r : List AV} {x : AV} {K : AV → Prop}, foldMM mx x r K → ∃ v, (∀ K' : AV → Prop, K' v → foldMM mx x r K') ∧ K v := by
  intro r
  induction r with
  | nil =>
    intro x K h
    cases x with
    | int k n => exact ⟨_, fun K' hk => hk, h⟩
    | _ => exact h.elim
  | cons y r ih =>
    intro x K h
    cases x with
    | int k n =>
      cases y with
      | int k' m =>
        unfold foldMM at h
        split at h
        · rename_i he
          obtain ⟨v, h1, h2⟩ := ih h
          exact ⟨v, fun K' hk => by unfold foldMM; rw [if_pos he]; exact h1 K' hk, h2⟩
        · exact h.elim
      | _ => exact h.elim
    | _ => exact h.elim
/-- what it leaves, taken apart from what follows -/
theorem sem_dec (G : Goods) (ao : AOp) (hd : ao.dOK = true) {g : Nat → AV} {bs : List (Option Box)} {K : Cont} (h : ao.sem G g bs K) :
    ∃ v ts bx, (∀ K' : Cont, K' v ts bx → ao.sem G g bs K') ∧ K v ts bx ∧ (ao.wrB = false → bx = none) ∧ (∀ n a, ts = some (n, a) → ao.mod = some n) ∧ (∀ so, ao.src = some so → v.ref = none ∨ ∃ s, so = some s ∧ v.ref = (g s).ref) := by
  cases ao <;> simp only [AOp.dOK, Bool.false_eq_true] at hd
  case cp x =>
    cases x with
    | t n => exact ⟨_, none, none, fun K' hk => hk, h, fun _ => rfl, fun _ _ hh => (by cases hh), fun so hs => .inr ⟨n, (by simp only [AOp.src, Option.some.injEq] at hs; exact hs.symm), AV.ref_cpy _⟩⟩
    | c c => exact ⟨_, none, none, fun K' hk => hk, h, fun _ => rfl, fun _ _ hh => (by cases hh), fun _ hs => (by simp [AOp.src] at hs)⟩
  case pick c x y =>
    simp only [AOp.sem] at h ⊢
    split at h
    · rename_i b hb
      cases b
      · exact ⟨_, none, none, fun K' hk => ⟨fun h => (by cases h), fun _ => hk⟩, h.2 rfl, fun _ => rfl, fun _ _ hh => (by cases hh), fun _ hs => (by simp [AOp.src] at hs)⟩
      · exact ⟨_, none, none, fun K' hk => ⟨fun _ => hk, fun h => (by cases h)⟩, h.1 rfl, fun _ => rfl, fun _ _ hh => (by cases hh), fun _ hs => (by simp [AOp.src] at hs)⟩
    · exact h.elim
  case bin op x y =>
    obtain ⟨v, h1, h2⟩ := binK_dec h
    exact ⟨v, none, none, fun K' hk => h1 (fun v => K' v none none) hk, h2, fun _ => rfl, fun _ _ hh => (by cases hh), fun _ hs => (by simp [AOp.src] at hs)⟩
  case eqA ne ks x y =>
    simp only [AOp.sem] at h ⊢
    split at h
    · split at h
      · split at h
        · exact h.elim
        · cases ne <;> exact ⟨_, none, none, fun K' hk => hk, h, fun _ => rfl, fun _ _ hh => (by cases hh), fun _ hs => (by simp [AOp.src] at hs)⟩
      · exact h.elim
    · exact h.elim
  case eqB ne x y =>
    simp only [AOp.sem] at h ⊢
    split at h
    · split at h
      · cases ne <;> exact ⟨_, none, none, fun K' hk => hk, h, fun _ => rfl, fun _ _ hh => (by cases hh), fun _ hs => (by simp [AOp.src] at hs)⟩
      · exact h.elim
    · exact h.elim
  case un op x =>
    simp only [AOp.sem, unK] at h ⊢
    split at h
    · split at h
      · exact ⟨_, none, none, fun K' hk => hk, h, fun _ => rfl, fun _ _ hh => (by cases hh), fun _ hs => (by simp [AOp.src] at hs)⟩
      · exact h.elim
    · split at h
      · exact ⟨_, none, none, fun K' hk => hk, h, fun _ => rfl, fun _ _ hh => (by cases hh), fun _ hs => (by simp [AOp.src] at hs)⟩
      · exact h.elim
    · exact h.elim
  case cv c x =>
    cases c <;> (try simp only [AOp.sem, cvK] at h ⊢)
    case int k =>
      split at h
      · exact ⟨_, none, none, fun K' hk => hk, h, fun _ => rfl, fun _ _ hh => (by cases hh), fun _ hs => (by simp [AOp.src] at hs)⟩
      · exact h.elim
    case bytes =>
      split at h
      · exact ⟨_, none, none, fun K' hk => hk, h, fun _ => rfl, fun _ _ hh => (by cases hh), fun _ hs => (by simp [AOp.src] at hs)⟩
      · exact h.elim
    case str =>
      split at h
      · obtain ⟨h1, s, h2, h3, h⟩ := h
        exact ⟨_, none, none, fun K' hk => ⟨h1, s, h2, h3, hk⟩, h, fun _ => rfl, fun _ _ hh => (by cases hh), fun _ hs => (by simp [AOp.src] at hs)⟩
      · exact h.elim
    case id =>
      split at h
      · exact ⟨_, none, none, fun K' hk => hk, h, fun _ => rfl, fun _ _ hh => (by cases hh), fun _ hs => (by simp [AOp.src] at hs)⟩
      · exact h.elim
  case ldt p =>
    simp only [AOp.sem] at h ⊢
    split at h
    · split at h
      · split at h
        · rename_i hes
          split at h
          · exact h.elim
          · rename_i y hy
            split at h
            · exact h.elim
            · rename_i c hc
              rw [frcL_eq] at h
              obtain ⟨h1, h2⟩ := setRow_dec h
              refine ⟨_, none, _, fun K' hk => ?_, h2, by simp [AOp.wrB], fun _ _ hh => (by cases hh), fun _ hs => (by simp [AOp.src] at hs)⟩
              rw [if_pos hes]
              first
                | (simp only [frcL_eq]; exact h1 _ hk)
                | (simp only [hy, hc, frcL_eq]; exact h1 _ hk)
        · exact h.elim
      · exact h.elim
    · exact h.elim
  case stt p n =>
    simp only [AOp.sem] at h ⊢
    split at h
    · split at h
      · split at h
        · rename_i hes
          split at h
          · exact h.elim
          · rename_i y hy
            split at h
            · rename_i hn
              split at h
              · rename_i hlt
                rw [frcL_eq] at h
                obtain ⟨h1, h2⟩ := setRow_dec h
                refine ⟨_, some (n, _), _, fun K' hk => ?_, h2, by simp [AOp.wrB], fun _ _ hh => (by cases hh; rfl), fun _ hs => (by simp [AOp.src] at hs)⟩
                rw [if_pos hes]
                first
                  | (rw [if_pos hlt]; simp only [frcL_eq]; exact h1 _ hk)
                  | (simp only [hy, hn]; rw [if_pos hlt]; simp only [frcL_eq]; exact h1 _ hk)
              · exact h.elim
            · exact h.elim
        · exact h.elim
      · exact h.elim
    · exact h.elim
  case tk n => exact ⟨_, some (n, _), none, fun K' hk => hk, h, fun _ => rfl, fun _ _ hh => (by cases hh; rfl), fun _ hs => (by simp [AOp.src] at hs)⟩
  case extt n i =>
    simp only [AOp.sem] at h ⊢
    split at h
    · split at h
      · exact h.elim
      · rename_i c hc
        exact ⟨_, some (n, _), none, fun K' hk => by first | exact hk | (simp only [hc]; exact hk), h, fun _ => rfl, fun _ _ hh => (by cases hh; rfl), fun _ hs => (by simp [AOp.src] at hs)⟩
    · exact h.elim
  case app es bytes x y =>
    simp only [AOp.sem] at h ⊢
    split at h
    · split at h
      · rename_i he1
        split at h
        · split at h
          · rename_i he2
            obtain ⟨h1, h2, h3, h⟩ := h
            refine ⟨_, _, none, fun K' hk => by rw [if_pos he1, if_pos he2]; exact ⟨h1, h2, h3, hk⟩, h, fun _ => rfl, fun n a hh => ?_, fun _ hs => (by simp [AOp.src] at hs)⟩
            cases x with
            | t m => cases hh; rfl
            | c _ => cases hh
          · exact h.elim
        · exact h.elim
      · exact h.elim
    · exact h.elim
  case appS bytes x y =>
    simp only [AOp.sem] at h ⊢
    split at h
    · split at h
      · rename_i he1
        split at h
        · obtain ⟨h1, h2, h3, h⟩ := h
          refine ⟨_, _, none, fun K' hk => by rw [if_pos he1]; exact ⟨h1, h2, h3, hk⟩, h, fun _ => rfl, fun n a hh => ?_, fun _ hs => (by simp [AOp.src] at hs)⟩
          cases x with
          | t m => cases hh; rfl
          | c _ => cases hh
        · exact h.elim
      · exact h.elim
    · exact h.elim
  case bs es xs =>
    simp only [AOp.sem, cellsOf_eq] at h ⊢
    split at h
    · split at h
      · exact ⟨_, none, none, fun K' hk => hk, h, fun _ => rfl, fun _ _ hh => (by cases hh), fun _ hs => (by simp [AOp.src] at hs)⟩
      · exact h.elim
    · exact h.elim
  case mk es bytes zero l c =>
    simp only [AOp.sem] at h ⊢
    obtain ⟨l', h1, h⟩ := asI_dec h
    obtain ⟨c', h2, h⟩ := asI_dec h
    obtain ⟨h3, h4, h5, h6, h⟩ := h
    exact ⟨_, none, none, fun K' hk => h1 _ (h2 _ ⟨h3, h4, h5, h6, hk⟩), h, fun _ => rfl, fun _ _ hh => (by cases hh), fun _ hs => (by simp [AOp.src] at hs)⟩
  case mm mx xs =>
    simp only [AOp.sem] at h ⊢
    cases xs with
    | nil => exact h.elim
    | cons x r =>
      simp only at h ⊢
      obtain ⟨v, h1, h2⟩ := foldMM_dec h
      exact ⟨v, none, none, fun K' hk => h1 (fun v => K' v none none) hk, h2, fun _ => rfl, fun _ _ hh => (by cases hh), fun _ hs => (by simp [AOp.src] at hs)⟩
  case ld n p =>
    simp only [AOp.sem] at h ⊢
    split at h
    · split at h
      · split at h
        · rename_i hes
          cases n with
          | none =>
            simp only [cellAt] at h ⊢
            split at h
            · exact h.elim
            · rename_i x hx
              split at h
              · exact h.elim
              · rename_i c hc
                exact ⟨_, none, none, fun K' hk => by rw [if_pos hes]; first | exact hk | (simp only [hx, hc]; exact hk), h, fun _ => rfl, fun _ _ hh => (by cases hh), fun _ hs => (by simp [AOp.src] at hs)⟩
          | some m =>
            simp only at h ⊢
            split at h
            · exact h.elim
            · rename_i x hx
              split at h
              · rename_i hle
                exact ⟨_, none, none, fun K' hk => by rw [if_pos hes]; first | exact hk | (simp only [hx, hle]; exact hk), h, fun _ => rfl, fun _ _ hh => (by cases hh), fun _ hs => (by simp [AOp.src] at hs)⟩
              · exact h.elim
        · exact h.elim
      · exact h.elim
    · cases n with
      | none =>
        simp only at h ⊢
        split at h
        · exact h.elim
        · exact ⟨_, none, none, fun K' hk => hk, h, fun _ => rfl, fun _ _ hh => (by cases hh), fun _ hs => (by simp [AOp.src] at hs)⟩
      | some m =>
        simp only at h ⊢
        split at h
        · exact ⟨_, none, none, fun K' hk => hk, h, fun _ => rfl, fun _ _ hh => (by cases hh), fun _ hs => (by simp [AOp.src] at hs)⟩
        · exact h.elim
    · exact h.elim
  case st n p x =>
    simp only [AOp.sem] at h ⊢
    split at h
    · split at h
      · split at h
        · rename_i hes
          split at h
          · exact h.elim
          · rename_i y hy
            cases hX : x.ev g <;> simp only [hX] at h ⊢ <;> first
              | exact h.elim
              | (split at h
                 · rw [frcL_eq] at h
                   obtain ⟨h1, h2⟩ := setRow_dec h
                   refine ⟨_, none, _, fun K' hk => ?_, h2, by simp [AOp.wrB], fun _ _ hh => (by cases hh), fun _ hs => (by simp [AOp.src] at hs)⟩
                   rw [if_pos hes]
                   first
                     | (simp only [frcL_eq]; exact h1 _ hk)
                     | (simp only [hy, frcL_eq]; exact h1 _ hk)
                 · exact h.elim)
        · exact h.elim
      · exact h.elim
    · exact h.elim
  case ldr n p =>
    simp only [AOp.sem] at h ⊢
    split at h
    · split at h
      · split at h
        · rename_i hes
          obtain ⟨x, hx, h⟩ := h
          cases n with
          | none =>
            simp only at h ⊢
            split at h
            · exact h.elim
            · rename_i c hc
              exact ⟨_, none, none, fun K' hk => by rw [if_pos hes]; exact ⟨x, hx, by simp only [hc]; exact hk⟩, h, fun _ => rfl, fun _ _ hh => (by cases hh), fun _ hs => (by simp [AOp.src] at hs)⟩
          | some m =>
            simp only at h ⊢
            split at h
            · rename_i hle
              exact ⟨_, none, none, fun K' hk => by rw [if_pos hes]; exact ⟨x, hx, by simp only [hle]; exact hk⟩, h, fun _ => rfl, fun _ _ hh => (by cases hh), fun _ hs => (by simp [AOp.src] at hs)⟩
            · exact h.elim
        · exact h.elim
      · exact h.elim
    · exact h.elim
  case sto n p x =>
    simp only [AOp.sem] at h ⊢
    split at h
    · split at h
      · split at h
        · rename_i hes
          obtain ⟨y, hy, h⟩ := h
          cases hX : x.ev g <;> simp only [hX] at h ⊢ <;> first
            | exact h.elim
            | (split at h
               · rename_i e1 e2
                 rw [frcL_eq] at h
                 refine ⟨_, none, _, fun K' hk => ?_, h, by simp [AOp.wrB], fun _ _ hh => (by cases hh), fun _ hs => (by simp [AOp.src] at hs)⟩
                 rw [if_pos hes]
                 exact ⟨y, hy, by simp only [e1, e2, frcL_eq]; exact hk⟩
               · exact h.elim)
        · exact h.elim
      · exact h.elim
    · exact h.elim
  case fa off p =>
    simp only [AOp.sem] at h ⊢
    split at h
    · rename_i hp
      exact ⟨_, none, none, fun K' hk => hk, h, fun _ => rfl, fun _ _ hh => (by cases hh), fun s hs => by
        cases p with
        | t m => simp only [AOp.src, Option.some.injEq] at hs; subst hs; right; exact ⟨m, rfl, by rw [show g m = _ from hp]; rfl⟩
        | c _ => cases hs⟩
    · exact ⟨_, none, none, fun K' hk => hk, h, fun _ => rfl, fun _ _ hh => (by cases hh), fun s hs => .inl rfl⟩
    · exact h.elim
  case ia es n x i =>
    simp only [AOp.sem] at h ⊢
    obtain ⟨k, h1, h⟩ := asI_dec h
    split at h
    · split at h
      · rename_i hes
        obtain ⟨h2, h3, c, hc, h⟩ := h
        exact ⟨_, none, none, fun K' hk => h1 _ (by rw [if_pos hes]; exact ⟨h2, h3, c, hc, hk⟩), h, fun _ => rfl, fun _ _ hh => (by cases hh), fun _ _ => .inl rfl⟩
      · exact h.elim
    · split at h
      · rename_i hes
        obtain ⟨h2, h3, h4, h⟩ := h
        exact ⟨_, none, none, fun K' hk => h1 _ (by rw [if_pos hes]; exact ⟨h2, h3, h4, hk⟩), h, fun _ => rfl, fun _ _ hh => (by cases hh), fun s hs => by
          cases n with
          | none => cases hs
          | some m => exact h3.elim⟩
      · exact h.elim
    · rename_i hp
      cases n with
      | none => exact h.elim
      | some m =>
        obtain ⟨h2, h3, h⟩ := h
        exact ⟨_, none, none, fun K' hk => h1 _ ⟨h2, h3, hk⟩, h, fun _ => rfl, fun _ _ hh => (by cases hh), fun s hs => by
          cases x with
          | t m => simp only [AOp.src, Option.some.injEq] at hs; subst hs; right; exact ⟨m, rfl, by rw [show g m = _ from hp]; rfl⟩
          | c _ => cases hs⟩
    · cases n with
      | none => exact h.elim
      | some m =>
        obtain ⟨h2, h3, h⟩ := h
        exact ⟨_, none, none, fun K' hk => h1 _ ⟨h2, h3, hk⟩, h, fun _ => rfl, fun _ _ hh => (by cases hh), fun _ _ => .inl rfl⟩
    · exact h.elim
  case iaE es x i =>
    simp only [AOp.sem] at h ⊢
    obtain ⟨k, h1, h⟩ := asI_dec h
    split at h
    · split at h
      · rename_i hes
        obtain ⟨h2, c, hc, h⟩ := h
        exact ⟨_, none, none, fun K' hk => h1 _ (by rw [if_pos hes]; exact ⟨h2, c, hc, hk⟩), h, fun _ => rfl, fun _ _ hh => (by cases hh), fun _ _ => .inl rfl⟩
      · exact h.elim
    · exact h.elim
  case iaR es n x i =>
    simp only [AOp.sem] at h ⊢
    obtain ⟨k, h1, h⟩ := asI_dec h
    split at h
    · rename_i b es' i0 off hx
      split at h
      · rename_i hes
        split at h
        · obtain ⟨h2, h3, h⟩ := h
          exact ⟨_, none, none, fun K' hk => h1 _ (by rw [if_pos hes]; exact ⟨h2, h3, hk⟩), h, fun _ => rfl, fun _ _ hh => (by cases hh), fun so hs => .inr (by
            cases x with
            | t s => exact ⟨s, (by simp only [AOp.src, Option.some.injEq] at hs; exact hs.symm), by have hx' : g s = _ := hx; rw [hx']; rfl⟩
            | c _ => cases hs)⟩
        · exact h.elim
      · exact h.elim
    · exact h.elim
  case ixS x i =>
    simp only [AOp.sem] at h ⊢
    obtain ⟨k, h1, h⟩ := asI_dec h
    split at h
    · obtain ⟨h2, c, hc, h⟩ := h
      exact ⟨_, none, none, fun K' hk => h1 _ ⟨h2, c, hc, hk⟩, h, fun _ => rfl, fun _ _ hh => (by cases hh), fun _ hs => (by simp [AOp.src] at hs)⟩
    · exact h.elim
  case ixA n x i =>
    simp only [AOp.sem] at h ⊢
    obtain ⟨k, h1, h⟩ := asI_dec h
    split at h
    · split at h
      · rename_i hes
        obtain ⟨h2, c, hc, h⟩ := h
        exact ⟨_, none, none, fun K' hk => h1 _ (by rw [if_pos hes]; exact ⟨h2, c, hc, hk⟩), h, fun _ => rfl, fun _ _ hh => (by cases hh), fun _ hs => (by simp [AOp.src] at hs)⟩
      · exact h.elim
    · exact h.elim
  case fld off n x =>
    simp only [AOp.sem] at h ⊢
    split at h
    · cases n with
      | none =>
        simp only at h ⊢
        split at h
        · exact h.elim
        · exact ⟨_, none, none, fun K' hk => hk, h, fun _ => rfl, fun _ _ hh => (by cases hh), fun _ hs => (by simp [AOp.src] at hs)⟩
      | some m =>
        simp only at h ⊢
        split at h
        · exact ⟨_, none, none, fun K' hk => hk, h, fun _ => rfl, fun _ _ hh => (by cases hh), fun _ hs => (by simp [AOp.src] at hs)⟩
        · exact h.elim
    · exact h.elim
  case sub es x lo hi mx =>
    simp only [AOp.sem] at h ⊢
    split at h
    · split at h
      · rename_i hes
        obtain ⟨l, h1, h⟩ := optI_dec h
        obtain ⟨hh, h2, h⟩ := optI_dec h
        cases mx with
        | none =>
          obtain ⟨h3, h4, h5, h⟩ := h
          exact ⟨_, none, none, fun K' hk => by rw [if_pos hes]; exact h1 _ (h2 _ ⟨h3, h4, h5, hk⟩), h, fun _ => rfl, fun _ _ hh => (by cases hh), fun _ hs => (by simp [AOp.src] at hs)⟩
        | some m =>
          obtain ⟨mm, h6, h⟩ := asI_dec h
          obtain ⟨h7, h3, h4, h5, h⟩ := h
          cases hi with
          | none => exact h.elim
          | some hi =>
            exact ⟨_, none, none, fun K' hk => by rw [if_pos hes]; exact h1 _ (h2 _ (h6 _ ⟨h7, h3, h4, h5, hk⟩)), h, fun _ => rfl, fun _ _ hh => (by cases hh), fun _ hs => (by simp [AOp.src] at hs)⟩
      · exact h.elim
    · exact h.elim
  case subS x lo hi =>
    simp only [AOp.sem] at h ⊢
    split at h
    · obtain ⟨l, h1, h⟩ := optI_dec h
      obtain ⟨hh, h2, h⟩ := optI_dec h
      obtain ⟨h3, h4, h5, h⟩ := h
      exact ⟨_, none, none, fun K' hk => h1 _ (h2 _ ⟨h3, h4, h5, hk⟩), h, fun _ => rfl, fun _ _ hh => (by cases hh), fun _ hs => (by simp [AOp.src] at hs)⟩
    · exact h.elim
  case bld zero ps =>
    simp only [AOp.sem] at h ⊢
    split at h
    · split at h
      · exact h.elim
      · exact ⟨_, none, none, fun K' hk => hk, h, fun _ => rfl, fun _ _ hh => (by cases hh), fun _ hs => (by simp [AOp.src] at hs)⟩
    · exact h.elim
  case ext x i =>
    simp only [AOp.sem] at h ⊢
    split at h
    · split at h
      · exact h.elim
      · rename_i c hc
        exact ⟨_, none, none, fun K' hk => by first | exact hk | (simp only [hc]; exact hk), h, fun _ => rfl, fun _ _ hh => (by cases hh), fun _ hs => (by simp [AOp.src] at hs)⟩
    · exact h.elim
  case call f xs =>
    simp only [AOp.sem] at h ⊢
    split at h
    · rw [frcL_eq] at h
      obtain ⟨r, h1, h2⟩ := h
      exact ⟨r, none, none, fun K' hk => by rw [frcL_eq]; exact ⟨r, h1, hk⟩, h2, fun _ => rfl, fun _ _ hh => (by cases hh), fun _ hs => (by simp [AOp.src] at hs)⟩
    · exact h.elim
  case len x =>
    simp only [AOp.sem] at h ⊢
    split at h
    · exact ⟨_, none, none, fun K' hk => hk, h, fun _ => rfl, fun _ _ hh => (by cases hh), fun _ hs => (by simp [AOp.src] at hs)⟩
    · exact ⟨_, none, none, fun K' hk => hk, h, fun _ => rfl, fun _ _ hh => (by cases hh), fun _ hs => (by simp [AOp.src] at hs)⟩
    · exact h.elim
  case lenS x =>
    simp only [AOp.sem] at h ⊢
    split at h
    · exact ⟨_, none, none, fun K' hk => hk, h, fun _ => rfl, fun _ _ hh => (by cases hh), fun _ hs => (by simp [AOp.src] at hs)⟩
    · exact h.elim
  case bad => exact h.elim
end Go.Proofs.Ytfkihagcgjombaa

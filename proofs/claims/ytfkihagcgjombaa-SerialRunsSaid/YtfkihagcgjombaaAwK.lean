/- Loops of a walk over data; arguments handed in, av data; a row out of a contract. No program's fact stands here. -/
import Derived.Test.YtfkihagcgjombaaAwJ
import Derived.ProofKit
import Derived.OpenShut
import Derived.Deep.Slices
namespace Go.Proofs.Ytfkihagcgjombaa
open Go.RowKit

/-! loops -/
/-- a loop: at the head of each round the state is st y for a y that the invariant allows -/
theorem loop_rule {α : Type} (ws : List Nat) (st : α → St) (inv : α → Prop) (m : α → Nat) {body : St → (AX → St → Prop) → Prop} {cl : List Bool} {cb : List Nat} {K : AX → St → Prop} {σ : St} (y0 : α)
    (h0 : (σ.clear cl cb).weak ws = st y0) (hi : inv y0) (hok : ∀ y, inv y → (st y).okRefs = true)
    (hb : ∀ y n, inv y → (∀ y' σ', inv y' → m y' < m y → (σ'.clear cl cb).weak ws = st y' → iter body cl cb n σ' K) →
      body (st y) (kRnd (fun σ' => iter body cl cb n σ' K) K)) : ∃ n, iter body cl cb n σ K := by
  have key : ∀ n y σ, inv y → m y < n → (σ.clear cl cb).weak ws = st y → iter body cl cb n σ K := by
    intro n
    induction n with
    | zero => intro y σ _ h; omega
    | succ n ih =>
      intro y σ hy hm he
      unfold iter
      refine ⟨ws, ?_⟩
      rw [he]
      exact ⟨hok y hy, hb y n hy fun y' σ' hy' hm' he' => ih y' σ' hy' (by omega) he'⟩
  exact ⟨m y0 + 1, key _ y0 σ hi (by omega) h0⟩

/-! what the reading itself tells -/
def AV.fits (a : AV) : Prop := ∃ I w v, Rd I w a v
theorem AV.fits.str {s : List UInt8} (h : (AV.str s).fits) : s.length ≤ maxLen := by obtain ⟨I, w, v, h⟩ := h; cases h; assumption
theorem AV.fits.sl {p : Pm} {es : Nat} {xs : List (List AV)} (h : (AV.sl p es xs).fits) : xs.length ≤ maxLen ∧ ∀ x ∈ xs, x.length = es ∧ ∀ c ∈ x, c.fits := by
  obtain ⟨I, w, v, h⟩ := h
  cases h with
  | sl _ _ _ base cap u hcap hmax hclip hnil hes hb hr =>
    refine ⟨by omega, fun x hx => ⟨hes x hx, fun c hc => ?_⟩⟩
    obtain ⟨j, hj⟩ := List.getElem?_of_mem hx
    obtain ⟨k, hk⟩ := List.getElem?_of_mem hc
    exact ⟨I, w, _, hr j k x c hj hk⟩
theorem AV.fits.agg {cs : List AV} (h : (AV.agg cs).fits) : ∀ c ∈ cs, c.fits := by
  obtain ⟨I, w, v, h⟩ := h
  cases h with
  | agg _ vs hl h1 h =>
    intro c hc
    obtain ⟨k, hk⟩ := List.getElem?_of_mem hc
    obtain ⟨v, hv⟩ : ∃ v, vs[k]? = some v := by
      have := (List.getElem?_eq_some_iff.1 hk).1
      exact ⟨vs[k], List.getElem?_eq_getElem (by omega)⟩
    exact ⟨I, w, v, h k c v hk hv⟩

section
variable {P : Program}
/-- a contract may lean on what its arguments' reading tells -/
theorem Good.assume {f : FuncId} {args : List AV} {r : AV} (h : (∀ c ∈ args, c.fits) → Good P f args r) : Good P f args r := by
  refine ⟨fun w I vs hI hargs => ?_⟩
  refine (h (fun c hc => ?_)).out w I vs hI hargs
  obtain ⟨k, hk⟩ := List.getElem?_of_mem hc
  have hlt : k < vs.length := by rw [← hargs.1]; exact (List.getElem?_eq_some_iff.1 hk).1
  exact ⟨I, w, _, hargs.2 k c vs[k] hk (List.getElem?_eq_getElem hlt)⟩

/-! arguments -/
inductive Sh where
  | int (k : IntKind)
  | bool
  | str
  | sl (ss : List Sh)

inductive Has : Sh → AV → Prop
  | int (k : IntKind) (n : Int) (h : (Lit.int k n).wf = true) : Has (.int k) (.int k n)
  | bool (b : Bool) : Has .bool (.bool b)
  | str (s : List UInt8) (h : s.length ≤ maxLen) : Has .str (.str s)
  | sl (ss : List Sh) (xs : List (List AV)) (hl : xs.length ≤ maxLen) (h1 : ∀ x ∈ xs, x.length = ss.length)
      (h : ∀ x ∈ xs, ∀ (k : Nat) c s, x[k]? = some c → ss[k]? = some s → Has s c) : Has (.sl ss) (.sl .sh ss.length xs)
def HasL (ss : List Sh) (av : List AV) : Prop := av.length = ss.length ∧ ∀ (k : Nat) c s, av[k]? = some c → ss[k]? = some s → Has s c

theorem HasL.cons {s : Sh} {ss : List Sh} {av : List AV} (h : HasL (s :: ss) av) : ∃ a r, av = a :: r ∧ Has s a ∧ HasL ss r := by
  cases av with
  | nil => cases h.1
  | cons a r => exact ⟨a, r, rfl, h.2 0 a s rfl rfl, by simpa using h.1, fun k c s' hc hs => h.2 (k + 1) c s' (by simpa using hc) (by simpa using hs)⟩
theorem HasL.nil {av : List AV} (h : HasL [] av) : av = [] := List.length_eq_zero_iff.1 h.1
theorem Has.int_inv {k : IntKind} {a : AV} (h : Has (.int k) a) : ∃ n, a = .int k n ∧ (Lit.int k n).wf = true := by cases h; exact ⟨_, rfl, ‹_›⟩
theorem Has.bool_inv {a : AV} (h : Has .bool a) : ∃ b, a = .bool b := by cases h; exact ⟨_, rfl⟩
theorem Has.str_inv {a : AV} (h : Has .str a) : ∃ s, a = .str s ∧ s.length ≤ maxLen := by cases h; exact ⟨_, rfl, ‹_›⟩
theorem Has.sl_inv {ss : List Sh} {a : AV} (h : Has (.sl ss) a) : ∃ xs, a = .sl .sh ss.length xs ∧ xs.length ≤ maxLen ∧ ∀ x ∈ xs, HasL ss x := by
  cases h with
  | sl _ xs hl h1 h => exact ⟨xs, rfl, hl, fun x hx => ⟨h1 x hx, h x hx⟩⟩
/-- a list of rows av a list of things -/
theorem rows_of {α : Type} {good : α → Prop} (f : α → List AV) {xs : List (List AV)} (h : ∀ x ∈ xs, ∃ y, x = f y ∧ good y) : ∃ l : List α, xs = l.map f ∧ ∀ y ∈ l, good y := by
  induction xs with
  | nil => exact ⟨[], rfl, by simp⟩
  | cons x xs ih =>
    obtain ⟨l, rfl, hl⟩ := ih fun x hx => h x (by simp [hx])
    obtain ⟨y, rfl, hy⟩ := h x (by simp)
    exact ⟨y :: l, rfl, by simpa [hy] using hl⟩

def shpL (rec : TypeId → Option (List Sh)) (P : Program) : Nat → List (TypeId × Nat) → Option (List Sh)
  | _, [] => some []
  | off, (t, o) :: r => match Nat.beq o off with
    | false => none
    | true => match rec t with
      | none => none
      | some ss => match Nat.beq (P.cellsOf t) ss.length with
        | false => none
        | true => match shpL rec P (off + ss.length) r with
          | none => none
          | some rest => some (ss ++ rest)
def shp (P : Program) : Nat → TypeId → Option (List Sh)
  | 0, _ => none
  | m + 1, t => match P.underlying t with
    | some .bool => some [.bool]
    | some (.int k) => some [.int k]
    | some .string => some [.str]
    | some (.slice e) => match shp P m e with
      | some (s :: ss) => match Nat.beq (P.cellsOf e) (s :: ss).length with
        | true => some [.sl (s :: ss)]
        | false => none
      | _ => none
    | some (.struct fs) => match shpL (shp P m) P 0 (fs.toList.map fun f => (f.type, f.offset)) with
      | some ss => match Nat.beq (P.cellsOf t) ss.length with
        | true => some ss
        | false => none
      | none => none
    | some (.array n e) => match shpL (shp P m) P 0 ((List.range n).map fun i => (e, i * P.cellsOf e)) with
      | some ss => match Nat.beq (P.cellsOf t) ss.length with
        | true => some ss
        | false => none
      | none => none
    | _ => none

def allCells (w : World) : Cells := fun b o => ∃ u, w.cell? ⟨b, o, none⟩ = some u

structure FitL (w : World) (ss : List Sh) (cs : List Value) (av : List AV) : Prop where
  lc : cs.length = ss.length
  ha : HasL ss av
  rd : ∀ (k : Nat) a v, av[k]? = some a → cs[k]? = some v → Rd (allCells w) w a v ∧ v.oneCell' = true

theorem FitL.one {w : World} {s : Sh} {v : Value} {a : AV} (h : Has s a) (hr : Rd (allCells w) w a v) (h1 : v.oneCell' = true) : FitL w [s] [v] [a] := by
  refine ⟨rfl, ⟨rfl, fun k c s' hc hs => ?_⟩, fun k a' v' ha hv => ?_⟩
  · cases k with
    | zero => cases hc; cases hs; exact h
    | succ k => simp at hc
  · cases k with
    | zero => cases ha; cases hv; exact ⟨hr, h1⟩
    | succ k => simp at ha
theorem FitL.append {w : World} {ss ss' : List Sh} {cs cs' : List Value} {av av' : List AV} (h : FitL w ss cs av) (h' : FitL w ss' cs' av') : FitL w (ss ++ ss') (cs ++ cs') (av ++ av') := by
  have h1 := h.lc; have h2 := h.ha.1; have h3 := h'.lc; have h4 := h'.ha.1
  refine ⟨by simp [h1, h3], ⟨by simp [h2, h4], fun k c s hc hs => ?_⟩, fun k a v ha hv => ?_⟩
  · by_cases hk : k < ss.length
    · rw [List.getElem?_append_left (by omega)] at hc hs
      exact h.ha.2 k c s hc hs
    · rw [List.getElem?_append_right (by omega)] at hc hs
      rw [h2] at hc
      exact h'.ha.2 _ c s hc hs
  · by_cases hk : k < ss.length
    · rw [List.getElem?_append_left (by omega)] at ha hv
      exact h.rd k a v ha hv
    · rw [List.getElem?_append_right (by omega)] at ha hv
      rw [h2] at ha; rw [h1] at hv
      exact h'.rd _ a v ha hv

theorem cells?_get {w : World} {base : Nat} {a : Addr} {n : Nat} {cs : List Value} (h : w.cells? base a n = some cs) : cs.length = n ∧ ∀ k, k < n → w.cell? (a.add k) = cs[k]? := by
  unfold World.cells? at h
  split at h
  · exact ⟨by simpa using mapM_some_length h, fun k hk => mapM_some_get h k k (by simp [hk])⟩
  · cases h

section
variable {H : Type} {enc : TypeId × Value → H} {w : World} {base : Nat} {spare : Nat → Bool} {held : Bool}

theorem fit_list {rec : TypeId → Option (List Sh)} {n : Nat} (ih : ∀ t cs x ss, DataW.trod enc P w base spare held n t cs = some x → rec t = some ss → ∃ av, FitL w ss cs av) :
    ∀ (l : List (TypeId × Nat)) (off : Nat) (ss : List Sh) (cs : List Value), shpL rec P off l = some ss →
      (∀ (i : Nat) t o, l[i]? = some (t, o) → ∃ x, DataW.trod enc P w base spare held n t ((cs.drop o).take (P.cellsOf t)) = some x) →
      ∃ av, FitL w ss ((cs.drop off).take ss.length) av := by
  intro l
  induction l with
  | nil =>
    intro off ss cs h _
    cases h
    exact ⟨[], by simp, ⟨rfl, by simp⟩, by simp⟩
  | cons p r ihl =>
    obtain ⟨t, o⟩ := p
    intro off ss cs h hp
    unfold shpL at h
    split at h
    · cases h
    · rename_i ho
      have ho := Nat.eq_of_beq_eq_true ho
      subst ho
      split at h
      · cases h
      · rename_i s1 hs1
        split at h
        · cases h
        · rename_i hc
          have hc := Nat.eq_of_beq_eq_true hc
          split at h
          · cases h
          · rename_i rest hrest
            cases h
            obtain ⟨x, hx⟩ := hp 0 t o rfl
            rw [hc] at hx
            obtain ⟨av, ha⟩ := ih _ _ _ _ hx hs1
            obtain ⟨av', ha'⟩ := ihl (o + s1.length) rest cs hrest fun i t' o' hi => hp (i + 1) t' o' (by simpa using hi)
            refine ⟨av ++ av', ?_⟩
            have e : (cs.drop o).take (s1 ++ rest).length = (cs.drop o).take s1.length ++ (cs.drop (o + s1.length)).take rest.length := by
              rw [List.length_append, List.take_add, List.drop_drop]
            rw [e]
            exact ha.append ha'

theorem open_rd : ∀ (m fuel : Nat) (t : TypeId) (cs : List Value) (x : DataW H × List MemPlace) (ss : List Sh), DataW.trod enc P w base spare held fuel t cs = some x → shp P m t = some ss → ∃ av, FitL w ss cs av := by
  intro m
  induction m with
  | zero => intro fuel t cs x ss _ h; cases h
  | succ m ih =>
    intro fuel t cs x ss h hs
    unfold shp at hs
    split at hs
    · rename_i ht
      cases hs
      obtain ⟨b, rfl, _⟩ := DataW.trod_bool ht h
      exact ⟨_, .one (.bool b) (.bool b) rfl⟩
    · rename_i k ht
      cases hs
      obtain ⟨n, rfl, _, hw⟩ := DataW.trod_int ht h
      exact ⟨_, .one (.int k n hw) (.int k n) rfl⟩
    · rename_i ht
      cases hs
      obtain ⟨s, rfl, _, hw⟩ := DataW.trod_string ht h
      have hw' : s.data.toList.length ≤ maxLen := by rw [Array.length_toList]; exact hw
      exact ⟨[.str s.data.toList], .one (.str _ hw') (.str _ hw') rfl⟩
    · rename_i e ht
      split at hs
      · rename_i s0 ss0 he
        split at hs
        · rename_i hc
          have hc := Nat.eq_of_beq_eq_true hc
          cases hs
          generalize hS : s0 :: ss0 = S at he hc
          have hpos : 0 < S.length := by rw [← hS]; simp
          rcases Go.Deep.open_slice ht h with ⟨rfl, _⟩ | ⟨a, len, cap, mm, n, D, Pl, rfl, hb, hl, hmx, hmm, _, hel⟩
          · exact ⟨[.sl .sh S.length []], .one (.sl S [] (by simp) (by simp) (by simp)) (.sl .sh S.length [] none 0 (fun _ _ => default) (by simp) (by simp) (by simp) (by simp) (by simp) (by simp) (by simp)) rfl⟩
          · have hle : len ≤ mm := by rw [hmm]; split <;> omega
            have hch : ∀ i, ∃ p : List Value × List AV, i < len → w.cells? base (a.add (i * S.length)) S.length = some p.1 ∧ FitL w S p.1 p.2 := by
              intro i
              by_cases hi : i < len
              · obtain ⟨cs', hcs, htr⟩ := hel i (by omega)
                rw [hc] at hcs
                obtain ⟨av, hA⟩ := ih _ _ _ _ _ htr he
                exact ⟨(cs', av), fun _ => ⟨hcs, hA⟩⟩
              · exact ⟨([], []), fun h => absurd h hi⟩
            obtain ⟨F, hF⟩ := Classical.axiomOfChoice hch
            have hget : ∀ (j : Nat) x, ((List.range len).map fun i => (F i).2)[j]? = some x → j < len ∧ x = (F j).2 := by
              intro j x hx
              rw [List.getElem?_map] at hx
              obtain ⟨i, hi, rfl⟩ := Option.map_eq_some_iff.1 hx
              have := List.getElem?_eq_some_iff.1 hi
              obtain ⟨h1, h2⟩ := this
              simp at h1 h2
              subst h2
              exact ⟨h1, rfl⟩
            have hmem : ∀ x ∈ (List.range len).map (fun i => (F i).2), ∃ j, j < len ∧ x = (F j).2 := by
              intro x hx
              obtain ⟨j, hj, rfl⟩ := List.mem_map.1 hx
              exact ⟨j, by simpa using hj, rfl⟩
            have hlen : ((List.range len).map fun i => (F i).2).length = len := by simp
            have hlen' : len ≤ maxLen := by omega
            have hcell : ∀ (j k : Nat) x c, ((List.range len).map fun i => (F i).2)[j]? = some x → x[k]? = some c → ∃ v, (F j).1[k]? = some v ∧ w.cell? ((a.add (j * S.length)).add k) = some v ∧ Rd (allCells w) w c v ∧ v.oneCell' = true := by
              intro j k x c hx hk
              obtain ⟨hj, rfl⟩ := hget j x hx
              obtain ⟨h1, h2⟩ := hF j hj
              have hk' : k < S.length := by have := (List.getElem?_eq_some_iff.1 hk).1; rw [h2.ha.1] at this; exact this
              obtain ⟨h3, h4⟩ := cells?_get h1
              obtain ⟨v, hv⟩ : ∃ v, (F j).1[k]? = some v := ⟨(F j).1[k], List.getElem?_eq_getElem (by omega)⟩
              exact ⟨v, hv, by rw [h4 k hk', hv], (h2.rd k c v hk hv).1, (h2.rd k c v hk hv).2⟩
            have hrd : Rd (allCells w) w (.sl .sh S.length ((List.range len).map fun i => (F i).2)) (.slice (some a) ((List.range len).map fun i => (F i).2).length cap) := by
              refine .sl .sh S.length _ (some a) cap (fun j k => ((F j).1[k]?).getD default) (by simpa using hl) hmx (by simp) (by simp) ?_ ?_ ?_
              · intro x hx
                obtain ⟨j, hj, rfl⟩ := hmem x hx
                exact (hF j hj).2.ha.1
              · intro hne
                have hl0 : 0 < len := by
                  apply Nat.pos_of_ne_zero
                  intro h0
                  subst h0
                  exact hne rfl
                obtain ⟨g, o, sp⟩ := a
                have hsp : sp = none := by
                  obtain ⟨h1, h2⟩ := hF 0 hl0
                  obtain ⟨h3, h4⟩ := cells?_get h1
                  have h5 := h4 0 hpos
                  have hsome : (F 0).1[0]? = some (F 0).1[0] := List.getElem?_eq_getElem (by omega)
                  rw [hsome] at h5
                  have := World.cell?_spot h5
                  simpa [Addr.add] using this
                subst hsp
                refine ⟨g, o, rfl, fun j k x c hx hk => ?_⟩
                obtain ⟨v, hv, hcl, _, h1⟩ := hcell j k x c hx hk
                rw [Go.WideShapes.add_plain, Go.WideShapes.add_plain, Nat.add_assoc] at hcl
                refine ⟨⟨v, hcl⟩, ?_, ?_⟩
                · rw [hcl, hv]; rfl
                · rw [hv]; exact h1
              · intro j k x c hx hk
                obtain ⟨v, hv, _, hr, _⟩ := hcell j k x c hx hk
                rw [hv]; exact hr
            rw [hlen] at hrd
            exact ⟨_, .one (.sl S _ (by rw [hlen]; exact hlen') (fun x hx => by
              obtain ⟨j, hj, rfl⟩ := hmem x hx
              exact (hF j hj).2.ha.1) (fun x hx k c s hk hs => by
              obtain ⟨j, hj, rfl⟩ := hmem x hx
              exact (hF j hj).2.ha.2 k c s hk hs)) hrd rfl⟩
        · cases hs
      · cases hs
    · rename_i fs ht
      split at hs
      · rename_i ss' hss
        split at hs
        · rename_i hc
          have hc := Nat.eq_of_beq_eq_true hc
          cases hs
          obtain ⟨xs, n, _, _, hl, hlen, hg⟩ := DataW.trod_struct ht h
          obtain ⟨av, ha⟩ := fit_list (rec := shp P m) (n := n) (fun t cs x ss h1 h2 => ih n t cs x ss h1 h2) _ 0 ss cs hss (fun i t' o hi => by
            rw [List.getElem?_map] at hi
            obtain ⟨f, hf, he⟩ := Option.map_eq_some_iff.1 hi
            cases he
            have hf' : fs[i]? = some f := by simpa using hf
            have hlt : i < xs.length := by rw [hlen]; exact (Array.getElem?_eq_some_iff.1 hf').1
            exact ⟨xs[i], by rw [hg i f hf', List.getElem?_eq_getElem hlt]⟩)
          rw [List.drop_zero, List.take_of_length_le (by omega)] at ha
          exact ⟨av, ha⟩
        · cases hs
      · cases hs
    · rename_i k e ht
      split at hs
      · rename_i ss' hss
        split at hs
        · rename_i hc
          have hc := Nat.eq_of_beq_eq_true hc
          cases hs
          obtain ⟨xs, n, _, _, hl, hlen, hg⟩ := DataW.trod_array ht h
          obtain ⟨av, ha⟩ := fit_list (rec := shp P m) (n := n) (fun t cs x ss h1 h2 => ih n t cs x ss h1 h2) _ 0 ss cs hss (fun i t' o hi => by
            rw [List.getElem?_map] at hi
            obtain ⟨f, hf, he⟩ := Option.map_eq_some_iff.1 hi
            cases he
            obtain ⟨h1, h2⟩ := List.getElem?_eq_some_iff.1 hf
            simp at h1 h2
            subst h2
            exact ⟨xs[i], by rw [hg i h1, List.getElem?_eq_getElem]⟩)
          rw [List.drop_zero, List.take_of_length_le (by omega)] at ha
          exact ⟨av, ha⟩
        · cases hs
      · cases hs
    · cases hs

open Go.WideShapes in
/-- a struct or an array handed in -/
theorem open_agg {t : TypeId} {v : Value} {d : DataW H} {p : List MemPlace} (ss : List Sh) (ha : ∃ cs, v = .agg cs)
    (h : DataW.Trod enc P w base spare held t v d p) (hs : shp P 9 t = some ss) : ∃ av, Rd (allCells w) w (.agg av) v ∧ HasL ss av := by
  obtain ⟨⟨cs⟩, rfl⟩ := ha
  obtain ⟨fuel, hf⟩ := h
  obtain ⟨av, hA⟩ := open_rd 9 fuel t cs _ ss hf hs
  refine ⟨av, ?_, hA.ha⟩
  have e : cs.length = av.length := hA.lc.trans hA.ha.1.symm
  exact .agg av cs e (fun v hv => by
    obtain ⟨k, hk⟩ := List.getElem?_of_mem hv
    have hlt := (List.getElem?_eq_some_iff.1 hk).1
    exact (hA.rd k av[k] v (List.getElem?_eq_getElem (by omega)) hk).2) (fun k c v hc hv => (hA.rd k c v hc hv).1)
/-- a value of one cell handed in -/
theorem open_leaf {t : TypeId} {v : Value} {d : DataW H} {p : List MemPlace} (s : Sh) (ha : ∀ cs, v ≠ .agg cs)
    (h : DataW.Trod enc P w base spare held t v d p) (hs : shp P 9 t = some [s]) : ∃ a, Rd (allCells w) w a v ∧ Has s a := by
  have hv : v.cells.toList = [v] := by
    cases v <;> first | rfl | exact absurd rfl (ha _)
  obtain ⟨fuel, hf⟩ := h
  rw [hv] at hf
  obtain ⟨av, hA⟩ := open_rd 9 fuel t [v] _ [s] hf hs
  obtain ⟨a, r, rfl, h1, h2⟩ := hA.ha.cons
  cases h2.nil
  exact ⟨a, (hA.rd 0 a v rfl rfl).1, h1⟩
end

/-- the row's walk out of a contract -/
theorem row_of {f : FuncId} {xs : List AV} {vs : Array Value} {w : World} (h : Good P f xs (.bool true)) (ha : ArgsR (allCells w) w xs vs.toList) :
    Calls P f vs w fun e w' => e = .returned (.bool true) ∧ Below w.heap.size w w' := by
  refine (h.out w (allCells w) vs.toList (fun b o h => h) ha).mono fun e w' ⟨u, g', he, hb, _, _, _, hr⟩ => ?_
  have : u = .bool true := by cases hr.1; rfl
  subst this
  exact ⟨he, hb⟩
theorem args0 {I : Cells} {w : World} : ArgsR I w [] [] := ⟨rfl, by simp⟩
theorem args_cons {I : Cells} {w : World} {a : AV} {v : Value} {av : List AV} {vs : List Value} (h : Rd I w a v) (hs : ArgsR I w av vs) : ArgsR I w (a :: av) (v :: vs) := by
  refine ⟨by simp [hs.1], fun i c u hc hu => ?_⟩
  cases i with
  | zero => cases hc; cases hu; exact h
  | succ i => exact hs.2 i c u (by simpa using hc) (by simpa using hu)
end
end Go.Proofs.Ytfkihagcgjombaa

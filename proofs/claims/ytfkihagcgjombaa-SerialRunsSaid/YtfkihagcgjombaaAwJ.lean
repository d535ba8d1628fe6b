/- Functions are told rightly: a contract out of a walk over data. No program's fact stands here. -/
import Derived.Test.YtfkihagcgjombaaAwI
namespace Go.Proofs.Ytfkihagcgjombaa
open Go.RowKit

/-- a result: a temporary, or what lies in a box (of so many cells) -/
inductive AR where
  | t (n : Nat)
  | c (n : Nat) (m : Option Nat)

structure AFn where
  n : Nat
  nb : Nat
  rs : List AR
  body : AC

def AR.res (σ : St) (r : AR) (K : AV → Prop) : Prop :=
  match r with
  | .t n => match (σ.get n).plain with
    | true => K (σ.get n)
    | false => False
  | .c n m => (AOp.ld m (.t n)).sem (fun _ _ _ => False) σ.get σ.b fun v _ _ => K v
def resL (σ : St) : List AR → (List AV → Prop) → Prop
  | [], K => K []
  | r :: rs, K => r.res σ fun v => resL σ rs fun vs => K (v :: vs)
/-- what the call leaves -/
def resK (rs : List AR) (σ : St) (K : AV → Prop) : Prop :=
  match rs with
  | [r] => r.res σ K
  | rs => resL σ rs fun vs => K (.tuple vs)

def AFn.start (f : AFn) (args : List AV) : St := ⟨args ++ List.replicate (f.n - args.length) .top, List.replicate f.nb none⟩
def AFn.fin (f : AFn) (K : AV → Prop) : AX → St → Prop
  | .normal, σ => resK f.rs σ K
  | .ret, σ => resK f.rs σ K
  | .exit _, _ => False
  | .goto _, _ => False

section
variable {P : Program}

def chkR (P : Program) : AR → ResultVar → Bool
  | .t n, .tmp m => Nat.beq n m
  | .c n k, .cell m t => Nat.beq n m && varT P t k
  | _, _ => false
def chkRs (P : Program) : List AR → List ResultVar → Bool
  | [], [] => true
  | x :: xs, y :: ys => chkR P x y && chkRs P xs ys
  | _, _ => false
def AR.tmps : List AR → List Nat
  | [] => []
  | .t n :: r => n :: AR.tmps r
  | .c _ _ :: r => AR.tmps r
def noDup : List Nat → Bool
  | [] => true
  | x :: xs => !xs.contains x && noDup xs
def chkF (P : Program) (f : FuncId) (af : AFn) : Bool :=
  match P.funcs[f]? with
  | none => false
  | some fn => match fn.body with
    | none => false
    | some c => chkC P c af.body && Nat.beq fn.ntmps af.n && chkRs P af.rs fn.results.toList && noDup (AR.tmps af.rs)

/-- which result a location is -/
def resAt : List AR → Nat → Loc → Loc
  | [], _, L => L
  | .t n :: r, i, L => if L = .slot n 0 then .res i else resAt r (i + 1) L
  | .c _ _ :: r, i, L => resAt r (i + 1) L

theorem resAt_none : ∀ (rs : List AR) (i n : Nat), n ∉ AR.tmps rs → resAt rs i (.slot n 0) = .slot n 0
  | [], _, _, _ => rfl
  | .t m :: r, i, n, h => by
    simp only [AR.tmps, List.mem_cons, not_or] at h
    simp only [resAt]
    rw [if_neg (by intro he; injection he with he _; exact h.1 he)]
    exact resAt_none r (i + 1) n h.2
  | .c _ _ :: r, i, n, h => resAt_none r (i + 1) n h
theorem resAt_t : ∀ (rs : List AR) (i j n : Nat), noDup (AR.tmps rs) = true → rs[j]? = some (.t n) → resAt rs i (.slot n 0) = .res (i + j)
  | [], _, j, _, _, h => by simp at h
  | .t m :: r, i, j, n, hd, h => by
    simp only [AR.tmps, noDup, Bool.and_eq_true, Bool.not_eq_true'] at hd
    cases j with
    | zero => cases h; simp [resAt]
    | succ j =>
      have hj : r[j]? = some (.t n) := by simpa using h
      have hmem : n ∈ AR.tmps r := by
        clear hd h
        induction r generalizing j with
        | nil => simp at hj
        | cons x r ih =>
          cases j with
          | zero => cases hj; simp [AR.tmps]
          | succ j =>
            have := ih j (by simpa using hj)
            cases x <;> simp [AR.tmps, this]
      have hne : m ≠ n := by intro he; subst he; simp [hmem] at hd
      simp only [resAt]
      rw [if_neg (by intro he; injection he with he _; exact hne he.symm), resAt_t r (i + 1) j n hd.2 hj]
      congr 1
      omega
  | .c _ _ :: r, i, j, n, hd, h => by
    cases j with
    | zero => cases h
    | succ j =>
      simp only [resAt]
      rw [resAt_t r (i + 1) j n hd (by simpa using h)]
      congr 1
      omega

/-- a result, read -/
def rdRes (tmps : Array Value) (y : ResultVar) : Sem Value :=
  match y with
  | .tmp t => pure (tmps.getD t undef)
  | .cell b t => do loadVar t (← asAddr (tmps.getD b undef))
theorem results_eq (fn : Func) (tmps : Array Value) : results fn tmps = (do let vs ← fn.results.mapM (rdRes tmps); pure (if h : vs.size = 1 then vs[0] else .tuple vs)) := rfl
theorem chkRs_len : ∀ {xs : List AR} {ys : List ResultVar}, chkRs P xs ys = true → xs.length = ys.length
  | [], [], _ => rfl
  | [], _ :: _, h => by cases h
  | _ :: _, [], h => by cases h
  | _ :: xs, _ :: ys, h => by simp only [chkRs, Bool.and_eq_true] at h; simp [chkRs_len h.2]

theorem res_one {g : Gh} {w0 : World} {I0 : Cells} {σ : St} {a : Act} {w : World} (h : Rel g w0 I0 σ a w) {r : AR} {y : ResultVar} (hc : chkR P r y = true) (f : Loc → Loc) (j : Nat) (hf : ∀ n, r = .t n → f (.slot n 0) = .res j) {K : AV → Prop} (hs : r.res σ K) :
    ∃ v u, (rdRes a.tmps y).run P w = .ok u w ∧ LocR (g.ren f) w (.res j) v u ∧ K v := by
  cases r with
  | t n =>
    cases y with
    | cell => cases hc
    | tmp m =>
      have := Nat.eq_of_beq_eq_true hc
      subst this
      simp only [AR.res] at hs
      split at hs
      · rename_i hp
        exact ⟨_, _, rfl, LocR.ren (plain_inv hp (h.slots n)) (hf n rfl), hs⟩
      · exact hs.elim
  | c n m =>
    cases y with
    | tmp => cases hc
    | cell b t =>
      simp only [chkR, Bool.and_eq_true] at hc
      have := Nat.eq_of_beq_eq_true hc.1
      subst this
      simp only [AR.res] at hs
      obtain ⟨x, ad, v, h1, h2, h3, h4, hk⟩ := ld_core (P := P) h hc.2 (p := .t n) (p' := .tmp n) (Nat.beq_refl n) hs
      have hv : a.tmps.getD n undef = .pointer (some ad) := h1
      refine ⟨x, v, ?_, LocR.of_rd h3 h4, hk⟩
      simp only [rdRes, hv, asAddr, pure_bind]
      exact h2

theorem res_list {g : Gh} {w0 : World} {I0 : Cells} {σ : St} {a : Act} {w : World} (h : Rel g w0 I0 σ a w) (f : Loc → Loc) : ∀ (rs : List AR) (ys : List ResultVar) (i : Nat), chkRs P rs ys = true → (∀ (j : Nat) n, rs[j]? = some (.t n) → f (.slot n 0) = .res (i + j)) → ∀ {K : List AV → Prop}, resL σ rs K →
    ∃ vs us, (ys.mapM (rdRes a.tmps)).run P w = .ok us w ∧ us.length = vs.length ∧ us.length = ys.length ∧ (∀ (j : Nat) c u, vs[j]? = some c → us[j]? = some u → LocR (g.ren f) w (.res (i + j)) c u) ∧ K vs
  | [], [], i, _, _, K, hs => ⟨[], [], rfl, rfl, rfl, fun j c u h => by simp at h, hs⟩
  | [], _ :: _, _, hc, _, _, _ => by cases hc
  | _ :: _, [], _, hc, _, _, _ => by cases hc
  | r :: rs, y :: ys, i, hc, hf, K, hs => by
    simp only [chkRs, Bool.and_eq_true] at hc
    obtain ⟨v, u, h1, h2, h3⟩ := res_one (P := P) h hc.1 f i (fun n hn => by have := hf 0 n (by rw [hn]; rfl); simpa using this) hs
    obtain ⟨vs, us, h4, h5, h6, h7, h8⟩ := res_list h f rs ys (i + 1) hc.2 (fun j n hj => by have := hf (j + 1) n (by simpa using hj); rw [this]; congr 1; omega) h3
    refine ⟨v :: vs, u :: us, ?_, by simp [h5], by simp [h6], fun j c u' hc' hu' => ?_, h8⟩
    · rw [List.mapM_cons, Sem.run_bind, h1, Result.andThen_ok, Sem.run_bind, h4]
      rfl
    · cases j with
      | zero => cases hc'; cases hu'; exact h2
      | succ j =>
        have := h7 j c u' (by simpa using hc') (by simpa using hu')
        rw [show i + (j + 1) = i + 1 + j by omega]
        exact this

/-- a contract: the walk over data ends in that result -/
theorem good_ofK {G : Goods} (hG : ∀ f xs r, G f xs r → Good P f xs r) {f : FuncId} {af : AFn} (hc : chkF P f af = true) {args : List AV} (hl : Nat.ble args.length af.n = true) (_ : allHeld args = true) (hno : ∀ c ∈ args, ∀ es xs, c ≠ .sl .own es xs) {r : AV} (Kr : AV → Prop) (hKr : ∀ v g w u, Kr v → ResR g w v u → ResR g w r u)
    (h : evC G af.body (af.start args) (af.fin Kr)) : Good P f args r := by
  refine ⟨fun w I vs hI hargs => ?_⟩
  unfold chkF at hc
  split at hc
  · cases hc
  · rename_i fn hfn
    split at hc
    · cases hc
    · rename_i c hb
      simp only [Bool.and_eq_true] at hc
      obtain ⟨⟨⟨hcc, hn⟩, hrs⟩, hdup⟩ := hc
      have hn := Nat.eq_of_beq_eq_true hn
      have hl := Nat.le_of_ble_eq_true hl
      obtain ⟨hlen, hrd⟩ := hargs
      let g : Gh := ⟨w.heap.size, I, fun _ => .none, fun _ => 0⟩
      have hIlt : ∀ b o, I b o → b < w.heap.size := fun b o hi => by obtain ⟨u, hu⟩ := hI b o hi; exact block_lt_of_cell hu
      have hrel : Rel g w I (af.start args) ⟨vs.toArray ++ Array.replicate (fn.ntmps - vs.toArray.size) undef, []⟩ w := by
        refine ⟨Below.refl _ _, rfl, fun b o _ => Iff.rfl, hI, rfl, ?_, fun t => ?_, fun b x hbx => ?_, fun t b hb => ?_⟩
        · simp [AFn.start, hn, hlen]
        · by_cases ht : t < args.length
          · have e1 : (af.start args).get t = args[t] := by
              unfold St.get AFn.start
              simp [List.getD_eq_getElem?_getD, List.getElem?_append_left ht, List.getElem?_eq_getElem ht]
            have e2 : (vs.toArray ++ Array.replicate (fn.ntmps - vs.toArray.size) undef).getD t undef = vs[t]'(by omega) := by
              rw [Array.getD_eq_getD_getElem?, Array.getElem?_append_left (by simp; omega)]
              simp [show t < vs.length by omega]
            rw [e1, e2]
            exact (hrd t _ _ (List.getElem?_eq_getElem ht) (List.getElem?_eq_getElem _)).slots (hno _ (List.getElem_mem ht)) t
          · have e1 : (af.start args).get t = .top := by
              unfold St.get AFn.start
              rw [List.getD_eq_getElem?_getD, List.getElem?_append_right (by omega)]
              cases hq : (List.replicate (af.n - args.length) AV.top)[t - args.length]? with
              | none => rfl
              | some q => exact List.eq_of_mem_replicate (List.mem_of_getElem? hq)
            rw [e1]
            exact SlotR.top _ _ _ _
        · have : (List.replicate af.nb (none : Option Box))[b]? = some (some x) := hbx
          exact absurd (List.eq_of_mem_replicate (List.mem_of_getElem? this)) (by simp)
        · exfalso
          by_cases ht : t < args.length
          · have e1 : (af.start args).get t = args[t] := by
              unfold St.get AFn.start
              simp [List.getD_eq_getElem?_getD, List.getElem?_append_left ht, List.getElem?_eq_getElem ht]
            rw [e1, Rd.ref (g := g) (w := w) (hrd t _ _ (List.getElem?_eq_getElem ht) (List.getElem?_eq_getElem (by omega)))] at hb
            cases hb
          · have e1 : (af.start args).get t = .top := by
              unfold St.get AFn.start
              rw [List.getD_eq_getElem?_getD, List.getElem?_append_right (by omega)]
              cases hq : (List.replicate (af.n - args.length) AV.top)[t - args.length]? with
              | none => rfl
              | some q => exact List.eq_of_mem_replicate (List.mem_of_getElem? hq)
            rw [e1] at hb
            cases hb
      refine calls_of_wp hfn hb (code_told (w0 := w) (I0 := I) hG af.body c hcc g _ _ w _ _ hrel h fun e σ' hk g' a' w' hr => ?_)
      have fin : resK af.rs σ' Kr → bodyPost P fn (fun e w' => ∃ (u : Value) (g' : Gh), e = .returned u ∧ Below w.heap.size w w' ∧ g'.base = w.heap.size ∧ (∀ b o, b < w.heap.size → (g'.I b o ↔ I b o)) ∧ (∀ b o, g'.I b o → ∃ u, w'.cell? ⟨b, o, none⟩ = some u) ∧ ResR g' w' r u) .ret a' w' := fun hk => by
        have hfin : ∀ u, (results fn a'.tmps).run P w' = .ok u w' → ResR (g'.ren (resAt af.rs 0)) w' r u → bodyPost P fn (fun e w' => ∃ (u : Value) (g' : Gh), e = .returned u ∧ Below w.heap.size w w' ∧ g'.base = w.heap.size ∧ (∀ b o, b < w.heap.size → (g'.I b o ↔ I b o)) ∧ (∀ b o, g'.I b o → ∃ u, w'.cell? ⟨b, o, none⟩ = some u) ∧ ResR g' w' r u) .ret a' w' := fun u hru hres =>
          ⟨hr.defers, u, hru, u, g'.ren (resAt af.rs 0), rfl, by have := hr.below; rwa [hr.size] at this, hr.size, fun b o hb => hr.old b o (by rw [hr.size]; exact hb), hr.ex, hres⟩
        have hat : ∀ (j : Nat) n, af.rs[j]? = some (.t n) → resAt af.rs 0 (.slot n 0) = .res (0 + j) := fun j n hj => resAt_t af.rs 0 j n hdup hj
        have hmany : resL σ' af.rs (fun vs => Kr (AV.tuple vs)) → af.rs.length ≠ 1 → bodyPost P fn (fun e w' => ∃ (u : Value) (g' : Gh), e = .returned u ∧ Below w.heap.size w w' ∧ g'.base = w.heap.size ∧ (∀ b o, b < w.heap.size → (g'.I b o ↔ I b o)) ∧ (∀ b o, g'.I b o → ∃ u, w'.cell? ⟨b, o, none⟩ = some u) ∧ ResR g' w' r u) .ret a' w' := fun hk hne => by
          obtain ⟨vs, us, h1, h2, h3, h4, h5⟩ := res_list (P := P) hr (resAt af.rs 0) af.rs fn.results.toList 0 hrs hat hk
          have hl2 : us.length ≠ 1 := by have := chkRs_len hrs; omega
          refine hfin (.tuple us.toArray) ?_ (hKr _ _ _ _ h5 ⟨us, rfl, h2, fun j c u hc hu => by have := h4 j c u hc hu; rwa [Nat.zero_add] at this⟩)
          rw [results_eq, Sem.run_bind, Array.mapM_eq_mapM_toList, Sem.run_map, h1]
          simp [hl2]
        unfold resK at hk
        split at hk
        · rename_i r0 hrs0
          rw [hrs0] at hrs hat
          cases hres : fn.results.toList with
          | nil => rw [hres] at hrs; cases hrs
          | cons y ys =>
            rw [hres] at hrs
            simp only [chkRs, Bool.and_eq_true] at hrs
            cases ys with
            | cons _ _ => simp [chkRs] at hrs
            | nil =>
              obtain ⟨v, u, h1, h2, h3⟩ := res_one (P := P) hr hrs.1 (resAt af.rs 0) 0 (fun n hn => by rw [hrs0]; exact hat 0 n (by rw [hn]; rfl)) hk
              refine hfin u ?_ (hKr v _ _ _ h3 ?_)
              · rw [results_eq, Sem.run_bind, Array.mapM_eq_mapM_toList, Sem.run_map, hres, List.mapM_cons, Sem.run_bind, h1]
                simp
              · cases v with
                | tuple => cases h2.1
                | _ => exact h2
        · exact hmany hk (by rename_i hne; intro he; obtain ⟨x, hx⟩ := List.length_eq_one_iff.1 he; exact hne x hx)
      cases e with
      | normal => exact fin hk
      | ret => exact fin hk
      | exit i => exact hk.elim
      | goto l => exact hk.elim
theorem good_of {G : Goods} (hG : ∀ f xs r, G f xs r → Good P f xs r) {f : FuncId} {af : AFn} (hc : chkF P f af = true) {args : List AV} (hl : Nat.ble args.length af.n = true) (hh : allHeld args = true) (hno : ∀ c ∈ args, ∀ es xs, c ≠ .sl .own es xs) {r : AV}
    (h : evC G af.body (af.start args) (af.fin (· = r))) : Good P f args r :=
  good_ofK hG hc hl hh hno (· = r) (fun _ _ _ _ he hr => he ▸ hr) h
/-- a result that is to be read alone -/
def AV.unown : AV → AV
  | .tuple vs => .tuple (vs.map AV.share)
  | a => a.share
theorem ResR.unown {g : Gh} {w : World} {v : AV} {u : Value} (h : ResR g w v u) : ResR g w v.unown u := by
  cases v with
  | tuple vs =>
    obtain ⟨us, hu, hl, hr⟩ := h
    refine ⟨us, hu, by simpa using hl, fun j c u hc hu => ?_⟩
    rw [List.getElem?_map] at hc
    obtain ⟨c', hc', rfl⟩ := Option.map_eq_some_iff.1 hc
    exact (hr j c' u hc' hu).share
  | sl p es xs => cases p <;> exact LocR.share h
  | _ => exact LocR.share h
theorem good_ofS {G : Goods} (hG : ∀ f xs r, G f xs r → Good P f xs r) {f : FuncId} {af : AFn} (hc : chkF P f af = true) {args : List AV} (hl : Nat.ble args.length af.n = true) (hh : allHeld args = true) (hno : ∀ c ∈ args, ∀ es xs, c ≠ .sl .own es xs) {r : AV}
    (h : evC G af.body (af.start args) (af.fin (fun v => v.unown = r))) : Good P f args r :=
  good_ofK hG hc hl hh hno (fun v => v.unown = r) (fun _ _ _ _ he hr => he ▸ hr.unown) h
end
end Go.Proofs.Ytfkihagcgjombaa

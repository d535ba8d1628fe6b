/- The walk over data as a tactic. No program's fact stands here. -/
import Derived.Test.YtildhamfnfifjaaAwK
namespace Go.Proofs.Ytildhamfnfifjaa
open Go.RowKit
open Lean Meta Elab Tactic

/-- 'go_ax t': lays the walk open as far as it goes. t: closes a goal 'Good P f args ?r'. What stays are the leaves and what it could not do. -/
partial def goAx (t : Syntax) (inl : Bool) (fuel : Nat) : TacticM Unit := do
  if fuel = 0 then return
  let g ← getMainGoal
  let rest : TacticM Unit := goAx t inl (fuel - 1)
  g.withContext do
    let ty ← instantiateMVars (← g.getType)
    let ty' ← instantiateMVars (← whnf ty)
    let g ← g.replaceTargetDefEq ty'
    replaceMainGoal [g]
    let run (s : Syntax) : TacticM Bool := do
      let saved ← saveState
      try
        evalTactic s
        return true
      catch ex =>
        saved.restore
        trace[Meta.Tactic] "{ex.toMessageData}"
        return false
    if ty'.isAppOf ``True then
      evalTactic (← `(tactic| exact True.intro))
    else if ty'.isAppOf ``Eq then
      let l ← whnf (ty'.getArg! 1)
      let g ← g.replaceTargetDefEq (mkApp3 ty'.getAppFn (ty'.getArg! 0) l (ty'.getArg! 2))
      replaceMainGoal [g]
      let _ ← run (← `(tactic| exact rfl))
    else if ty'.isAppOf ``And then
      let gs ← g.apply (mkConst ``And.intro)
      match gs with
      | [a, b] =>
        replaceMainGoal [a]
        let ok ← run (← `(tactic| first | exact True.intro | exact rfl | decide | assumption | omega | (simp; done) | (simp [maxLen] at *; omega)))
        let left ← getGoals
        setGoals [b]
        rest
        let more ← getGoals
        setGoals ((if ok then [] else left) ++ more)
      | _ => pure ()
    else if ty'.isAppOf ``Exists then
      let α := ty'.getArg! 0
      let α ← whnfR α
      if α.isConstOf ``AV then
        let m ← mkFreshExprSyntheticOpaqueMVar α
        let p := (mkApp (ty'.getArg! 1) m).headBeta
        let gm ← mkFreshExprSyntheticOpaqueMVar p
        g.assign (mkApp4 (mkConst ``Exists.intro [1]) α (ty'.getArg! 1) m gm)
        let gs ← gm.mvarId!.apply (mkConst ``And.intro)
        match gs with
        | [a, b] =>
          setGoals [a]
          let ok ← run t
          let left ← getGoals
          if ok then
            setGoals [b]
            rest
            let more ← getGoals
            setGoals (left ++ more)
          else
            setGoals [a, b]
        | _ => pure ()
      else if α.isConstOf ``Nat then
        if inl then
          if ← run (← `(tactic| refine ⟨200, ?_⟩)) then rest
        else pure ()
      else
        if ← run (← `(tactic| refine ⟨_, rfl, ?_⟩)) then rest
    else
      let some app ← matchMatcherApp? ty' | return
      let some e := app.discrs[0]? | return
      let et ← whnfR (← inferType e)
      unless et.isConstOf ``Bool do return
      let (_, xs, g) ← g.generalizeHyp #[{ expr := e, xName? := `x, hName? := `hc }]
      let some x := xs[0]? | return
      let subs ← g.cases x
      let mut all : List MVarId := []
      for sg in subs do
        setGoals [sg.mvarId]
        let _ ← run (← `(tactic| simp only [Bool.not_eq_true', Bool.not_eq_false', Bool.not_eq_true, Bool.not_eq_false, decide_eq_false_iff_not, decide_eq_true_eq, Bool.and_eq_true, Bool.and_eq_false_imp, Bool.or_eq_true, Bool.or_eq_false_iff, Bool.true_eq_false, Bool.false_eq_true, Bool.and_true, Bool.not_not] at $(mkIdent `hc):ident))
        if !(← getGoals).isEmpty then rest
        all := all ++ (← getGoals)
      setGoals all

/-- every function laid open, loops run: closed calls -/
syntax "go_ax " tacticSeq : tactic
elab_rules : tactic | `(tactic| go_ax $t:tacticSeq) => do
  let gs ← getGoals
  match gs with
  | g :: r =>
    setGoals [g]
    goAx t false 100000
    let left ← getGoals
    setGoals (left ++ r)
  | [] => pure ()
syntax "go_run " tacticSeq : tactic
elab_rules : tactic | `(tactic| go_run $t:tacticSeq) => do
  let gs ← getGoals
  match gs with
  | g :: r =>
    setGoals [g]
    goAx t true 100000
    let left ← getGoals
    setGoals (left ++ r)
  | [] => pure ()

def noOwn : List AV → Bool
  | [] => true
  | a :: r => match a with
    | .sl p _ _ => match p with
      | .own => false
      | _ => noOwn r
    | _ => noOwn r
theorem noOwn_of : ∀ {l : List AV}, noOwn l = true → ∀ c ∈ l, ∀ es xs, c ≠ .sl .own es xs := by
  intro l
  induction l with
  | nil => intro _ c hc; cases hc
  | cons a r ih =>
    intro h c hc es xs he
    subst he
    rcases List.mem_cons.1 hc with rfl | hc
    · cases h
    · refine ih ?_ _ hc es xs rfl
      unfold noOwn at h
      split at h
      · split at h
        · cases h
        · exact h
      · exact h
theorem good_at {P : Program} {f : FuncId} {af : AFn} (hc : chkF P f af = true) {args : List AV} (hl : Nat.ble args.length af.n = true) (hpl : allPlain args = true) (hno : noOwn args = true) {r : AV}
    (h : evC (Good P) af.body (af.start args) (af.fin (· = r))) : Good P f args r := good_of (fun _ _ _ h => h) hc hl hpl (noOwn_of hno) h

/-- the contract wanted is to be had out of the function's code: ak<number> -/
elab "ak_at" : tactic => do
  let g ← getMainGoal
  let ty ← instantiateMVars (← g.getType)
  unless ty.isAppOfArity ``Good 4 do throwError "no contract: {ty}"
  let some n ← (Meta.evalNat (ty.getArg! 1)).run | throwError "no number"
  evalTactic (← `(tactic| refine good_at $(mkIdent (.mkSimple s!"ak{n}")) rfl rfl rfl ?_))

/-- 'gd a, b, c': one of these contracts -/
syntax "gd " ident,+ : tactic
elab_rules : tactic | `(tactic| gd $xs:ident,*) => do
  for x in xs.getElems do
    let saved ← saveState
    let g ← getMainGoal
    let rest := (← getGoals).tail
    let ok ← g.withContext do
      let e ← Term.withSynthesize <| elabTerm (← `(@$x)) none
      let (ms, _, ty) ← forallMetaTelescope (← inferType e)
      unless ty.isAppOfArity ``Good 4 do return false
      let gt ← instantiateMVars (← g.getType)
      unless (← withReducible <| isDefEq (ty.getArg! 1) (gt.getArg! 1)) do return false
      unless (← withAssignableSyntheticOpaque <| isDefEq (ty.getArg! 2) (gt.getArg! 2)) do return false
      unless (← withAssignableSyntheticOpaque <| isDefEq (gt.getArg! 3) (ty.getArg! 3)) do return false
      g.assign (mkAppN e ms)
      let new ← ms.toList.filterMapM fun m => do
        if ← m.mvarId!.isAssigned then return none else return some m.mvarId!
      setGoals new
      return true
    if ok then
      evalTactic (← `(tactic| all_goals try (first | assumption | omega | (simp; done) | (simp [maxLen] at *; omega))))
      setGoals ((← getGoals) ++ rest)
      return
    saved.restore
  throwError "no contract fits"
/-- a leaf: the result is the one that the contract tells -/
syntax "leaf" : tactic
macro_rules | `(tactic| leaf) => `(tactic| first | grind | (congr 1; grind) | (simp_all; done) | (simp_all; omega))

def unbytes (xs : List (List AV)) : List UInt8 := xs.map fun x => match x with
  | .int _ n :: _ => UInt8.ofNat n.toNat
  | _ => 0

/-- a contract out of a walk of the kit's own -/
theorem Good.of_calls {P : Program} {f : FuncId} {args : List AV} {r : AV} {u : Value} (hr : ∀ g w, ResR g w r u)
    (h : ∀ (w : World) (I : Cells) (vs : List Value), ArgsR I w args vs → Calls P f vs.toArray w fun e w' => e = .returned u ∧ Below w.heap.size w w') : Good P f args r := by
  intro w I vs hI ha
  refine (h w I vs ha).mono fun e w' ⟨he, hb⟩ => ⟨u, ⟨w.heap.size, I, fun _ => .none, fun _ => 0⟩, he, hb, rfl, fun b o _ => Iff.rfl, fun b o hi => ?_, hr _ _⟩
  obtain ⟨v, hv⟩ := hI b o hi
  exact ⟨v, (cell?_of_heap (hb.block b (block_lt_of_cell hv)) o).trans hv⟩
theorem ArgsR.nil_inv {I : Cells} {w : World} {vs : List Value} (h : ArgsR I w [] vs) : vs = [] := List.length_eq_zero_iff.1 h.1.symm
end Go.Proofs.Ytildhamfnfifjaa

/- A contract out of a function's code as data; out of a walk of the kit's own. No program's fact stands here. -/
import Derived.Test.YtfkihagcgjombaaAwK
namespace Go.Proofs.Ytfkihagcgjombaa
open Go.RowKit

def unbytes (xs : List (List AV)) : List UInt8 := xs.map fun x => match x with
  | .int _ n :: _ => UInt8.ofNat n.toNat
  | _ => 0


def noOwn : List AV → Bool
  | [] => true
  | a :: r => match a with
    | .sl p _ _ => match p with
      | .own => false
      | _ => noOwn r
    | _ => noOwn r
theorem noOwn_of : ∀ {l : List AV}, noOwn l = true → ∀ c ∈ l, ∀ es xs, c ≠ .sl .own es xs := by
  intro l
  induction l with
  | nil => intro _ c hc; cases hc
  | cons a r ih =>
    intro h c hc es xs he
    subst he
    rcases List.mem_cons.1 hc with rfl | hc
    · cases h
    · refine ih ?_ _ hc es xs rfl
      unfold noOwn at h
      split at h
      · split at h
        · cases h
        · exact h
      · exact h
theorem good_at {P : Program} {f : FuncId} {af : AFn} (hc : chkF P f af = true) {args : List AV} (hl : Nat.ble args.length af.n = true) (hpl : allHeld args = true) (hno : noOwn args = true) {r : AV}
    (h : evC (Good P) af.body (af.start args) (af.fin (· = r))) : Good P f args r := good_of (fun _ _ _ h => h) hc hl hpl (noOwn_of hno) h

theorem good_sh {P : Program} {f : FuncId} {af : AFn} (hc : chkF P f af = true) {args : List AV} (hl : Nat.ble args.length af.n = true) (hpl : allHeld args = true) (hno : noOwn args = true) {r : AV}
    (h : evC (Good P) af.body (af.start args) (af.fin (fun v => v.unown = r))) : Good P f args r := good_ofS (fun _ _ _ h => h) hc hl hpl (noOwn_of hno) h

/-- a contract out of a walk of the kit's own -/
theorem Good.of_calls {P : Program} {f : FuncId} {args : List AV} {r : AV} {u : Value} (hr : ∀ g w, ResR g w r u)
    (h : ∀ (w : World) (I : Cells) (vs : List Value), ArgsR I w args vs → Calls P f vs.toArray w fun e w' => e = .returned u ∧ Below w.heap.size w w') : Good P f args r := by
  refine ⟨fun w I vs hI ha => ?_⟩
  refine (h w I vs ha).mono fun e w' ⟨he, hb⟩ => ⟨u, ⟨w.heap.size, I, fun _ => .none, fun _ => 0⟩, he, hb, rfl, fun b o _ => Iff.rfl, fun b o hi => ?_, hr _ _⟩
  obtain ⟨v, hv⟩ := hI b o hi
  exact ⟨v, (cell?_of_heap (hb.block b (block_lt_of_cell hv)) o).trans hv⟩
theorem ArgsR.nil_inv {I : Cells} {w : World} {vs : List Value} (h : ArgsR I w [] vs) : vs = [] := List.length_eq_zero_iff.1 h.1.symm
end Go.Proofs.Ytfkihagcgjombaa

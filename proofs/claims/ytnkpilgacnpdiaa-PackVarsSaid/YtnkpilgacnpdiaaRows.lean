/-
  No cell of these rows narrows 'for every input' (looked for: loops, veiled, ifaces, maps, wideKeys, modest, calm, conditions, laid).
  DERIVED. THE GIVEN ROWS OF THIS SEAT. 3 by the template 'for every input the law returns true; each argument reads behind the call as it read before'; 0 by the template 'total and deterministic' (their statements: YtnkpilgacnpdiaaTotals.lean).
  GIVEN WITH THE SEED: the statements are not yours to turn. If you find one false, say at which input.
  Laid BY PROGRAM, IN A SANDBOX (cutbox-rows.mjs): the forced cells as the released guide's own fill.sh prints them over the translation f970e1d2c8a5c363… (all of the seat's roots in one cut). By AI agents, Wed Nov 11 2026. No macro, syntax, notation, axiom, sorry.
-/
import Derived.Test.YtnkpilgacnpdiaaChecked
import GoSem.Claim
import GoSem.ClaimJoined
import GoSem.ClaimMapViews
import Derived.JoinedTies
import Derived.KernelRfl
namespace Go.Proofs.Ytnkpilgacnpdiaa
/- THE CELL 'sum', in the pinned program and in every row, IS THE sha256 OF THE DUMP (.gsa) THAT YtnkpilgacnpdiaaProg.lean LOADS. Nothing in Lean hashes anything: it is a label: what it is worth is what the hold of that sum in a sandbox is worth. -/
noncomputable def Try.pinned : Pinned := { name := "ytnkpilgacnpdiaa", sum := "f970e1d2c8a5c363dcef3ab0976f9f2b3f0a77a6546f98f8289de33f29f078a6", checked := Try.checked }
namespace Rows
def none {H : Type} : Left H := { results := [], args := [] }

/-- 'fingerpostlaw01.PackBack': WHATEVER THE INPUT: true; the input reads as it did. -/
def packBackSpec : ChangeSpec := { name := "packBack", fn := fun _ => fun
  | [d1, d2, d3] => { results := [.lit (.bool true)], args := [d1, d2, d3] }
  | _ => none }
def packBackRow : OpenClaim := { program := "ytnkpilgacnpdiaa", sum := "f970e1d2c8a5c363dcef3ab0976f9f2b3f0a77a6546f98f8289de33f29f078a6", func := "fingerpost/fingerpostlaw01.PackBack", spec := "packBack", apart := false }
def PackBackSaid : Prop := packBackRow.holds Try.pinned (OpenSpec.ofChange packBackSpec)

/-- ITS FALSE NEIGHBOUR: 'it returns false'. Refute it at one input. -/
def packBackWrong : ChangeSpec := { name := "packBack", fn := fun _ => fun
  | [d1, d2, d3] => { results := [.lit (.bool false)], args := [d1, d2, d3] }
  | _ => none }
def PackBackWrongFalsely : Prop := packBackRow.holds Try.pinned (OpenSpec.ofChange packBackWrong)

/-- 'fingerpostlaw01.PackFlips': WHATEVER THE INPUT: true; the input reads as it did. -/
def packFlipsSpec : ChangeSpec := { name := "packFlips", fn := fun _ => fun
  | [d1, d2] => { results := [.lit (.bool true)], args := [d1, d2] }
  | _ => none }
def packFlipsRow : OpenClaim := { program := "ytnkpilgacnpdiaa", sum := "f970e1d2c8a5c363dcef3ab0976f9f2b3f0a77a6546f98f8289de33f29f078a6", func := "fingerpost/fingerpostlaw01.PackFlips", spec := "packFlips", apart := false }
def PackFlipsSaid : Prop := packFlipsRow.holds Try.pinned (OpenSpec.ofChange packFlipsSpec)

/-- ITS FALSE NEIGHBOUR: 'it returns false'. Refute it at one input. -/
def packFlipsWrong : ChangeSpec := { name := "packFlips", fn := fun _ => fun
  | [d1, d2] => { results := [.lit (.bool false)], args := [d1, d2] }
  | _ => none }
def PackFlipsWrongFalsely : Prop := packFlipsRow.holds Try.pinned (OpenSpec.ofChange packFlipsWrong)

/-- 'fingerpostlaw01.PackVars': WHATEVER THE INPUT: true; the input reads as it did. -/
def packVarsSpec : ChangeSpec := { name := "packVars", fn := fun _ => fun
  | [d1, d2, d3] => { results := [.lit (.bool true)], args := [d1, d2, d3] }
  | _ => none }
def packVarsRow : OpenClaim := { program := "ytnkpilgacnpdiaa", sum := "f970e1d2c8a5c363dcef3ab0976f9f2b3f0a77a6546f98f8289de33f29f078a6", func := "fingerpost/fingerpostlaw01.PackVars", spec := "packVars", apart := false }
def PackVarsSaid : Prop := packVarsRow.holds Try.pinned (OpenSpec.ofChange packVarsSpec)

/-- ITS FALSE NEIGHBOUR: 'it returns false'. Refute it at one input. -/
def packVarsWrong : ChangeSpec := { name := "packVars", fn := fun _ => fun
  | [d1, d2, d3] => { results := [.lit (.bool false)], args := [d1, d2, d3] }
  | _ => none }
def PackVarsWrongFalsely : Prop := packVarsRow.holds Try.pinned (OpenSpec.ofChange packVarsWrong)

/- THE SECOND FORM. 'bulk': how many values and letters a reading holds, each counted each time it is reached (what is shared counts as often as it is met; a slice's spare places count too). A statement '..UptoSaid' is the law's where the arguments, and the package variables that the reading takes, are together of bulk at most 1048576: NARROWER than '..Said'. Prove '..Said' where nothing that the law and all that it calls make is longer than what came in: it says more and counts as full. Else prove '..UptoSaid'. A law counts once. -/
mutual
def uptoBulk {H : Type} : DataW H → Nat
  | .lit (.string bytes) => bytes.length + 1
  | .lit _ => 1
  | .nil => 1
  | .ptr d => uptoBulk d + 1
  | .slice elems spare => uptoBulkAll elems + uptoBulkAll spare + 1
  | .agg parts => uptoBulkAll parts + 1
  | .iface _ d => uptoBulk d + 1
  | .map entries => uptoBulkEntries entries + 1
  | .held _ => 1
def uptoBulkAll {H : Type} : List (DataW H) → Nat
  | [] => 0
  | d :: r => uptoBulk d + uptoBulkAll r
def uptoBulkEntries {H : Type} : List (Lit × DataW H) → Nat
  | [] => 0
  | x :: r => uptoBulkEntry x + uptoBulkEntries r
def uptoBulkEntry {H : Type} : Lit × DataW H → Nat
  | (.string bytes, d) => bytes.length + uptoBulk d + 1
  | (_, d) => uptoBulk d + 1
 end
def uptoSmall : (H : Type) → List (DataW H) → Bool := fun _ ds => decide (uptoBulkAll ds ≤ 1048576)
def OpenSpec.upto (s : _root_.Go.ChangeSpec) : _root_.Go.OpenSpec := { _root_.Go.OpenSpec.ofChange s with cond := some uptoSmall }

/-- 'fingerpostlaw01.PackBack', WHERE WHAT IT READS IS OF BULK AT MOST 1048576: true; the input reads as it did. -/
def packBackUptoRow : OpenClaim := { program := "ytnkpilgacnpdiaa", sum := "f970e1d2c8a5c363dcef3ab0976f9f2b3f0a77a6546f98f8289de33f29f078a6", func := "fingerpost/fingerpostlaw01.PackBack", spec := "packBack", apart := false, narrowed := true }
def PackBackUptoSaid : Prop := packBackUptoRow.holds Try.pinned (OpenSpec.upto packBackSpec)

/-- 'fingerpostlaw01.PackFlips', WHERE WHAT IT READS IS OF BULK AT MOST 1048576: true; the input reads as it did. -/
def packFlipsUptoRow : OpenClaim := { program := "ytnkpilgacnpdiaa", sum := "f970e1d2c8a5c363dcef3ab0976f9f2b3f0a77a6546f98f8289de33f29f078a6", func := "fingerpost/fingerpostlaw01.PackFlips", spec := "packFlips", apart := false, narrowed := true }
def PackFlipsUptoSaid : Prop := packFlipsUptoRow.holds Try.pinned (OpenSpec.upto packFlipsSpec)

/-- 'fingerpostlaw01.PackVars', WHERE WHAT IT READS IS OF BULK AT MOST 1048576: true; the input reads as it did. -/
def packVarsUptoRow : OpenClaim := { program := "ytnkpilgacnpdiaa", sum := "f970e1d2c8a5c363dcef3ab0976f9f2b3f0a77a6546f98f8289de33f29f078a6", func := "fingerpost/fingerpostlaw01.PackVars", spec := "packVars", apart := false, narrowed := true }
def PackVarsUptoSaid : Prop := packVarsUptoRow.holds Try.pinned (OpenSpec.upto packVarsSpec)

end Rows
end Go.Proofs.Ytnkpilgacnpdiaa

/-
  No cell of these rows narrows 'for every input' (looked for: loops, veiled, ifaces, maps, wideKeys, modest, calm, conditions, laid).
  DERIVED. THE GIVEN ROWS OF THIS SEAT. 11 by the template 'for every input the law returns true; each argument reads behind the call as it read before'; 0 by the template 'total and deterministic' (their statements: YtildhamfnfifjaaTotals.lean).
  GIVEN WITH THE SEED: the statements are not yours to turn. If you find one false, say at which input.
  Laid BY PROGRAM, IN A SANDBOX (cutbox-rows.mjs): the forced cells as the released guide's own fill.sh prints them over the translation add634e0e8829aa6… (all of the seat's roots in one cut). By AI agents, Wed Nov 11 2026. No macro, syntax, notation, axiom, sorry.
-/
import Derived.Test.YtildhamfnfifjaaChecked
import GoSem.Claim
import GoSem.ClaimJoined
import GoSem.ClaimMapViews
import Derived.JoinedTies
import Derived.KernelRfl
namespace Go.Proofs.Ytildhamfnfifjaa
/- THE CELL 'sum', in the pinned program and in every row, IS THE sha256 OF THE DUMP (.gsa) THAT YtildhamfnfifjaaProg.lean LOADS. Nothing in Lean hashes anything: it is a label: what it is worth is what the hold of that sum in a sandbox is worth. -/
noncomputable def Try.pinned : Pinned := { name := "ytildhamfnfifjaa", sum := "add634e0e8829aa6679a2a7bd221291f8c457c662746c01ef9731b7148db3cb5", checked := Try.checked }
namespace Rows
def none {H : Type} : Left H := { results := [], args := [] }

/-- 'fingerpostlaw06.HelloSays': WHATEVER THE INPUT: true; the input reads as it did. -/
def helloSaysSpec : ChangeSpec := { name := "helloSays", fn := fun _ => fun
  | [d1, d2] => { results := [.lit (.bool true)], args := [d1, d2] }
  | _ => none }
def helloSaysRow : OpenClaim := { program := "ytildhamfnfifjaa", sum := "add634e0e8829aa6679a2a7bd221291f8c457c662746c01ef9731b7148db3cb5", func := "fingerpost/fingerpostlaw06.HelloSays", spec := "helloSays", apart := false }
def HelloSaysSaid : Prop := helloSaysRow.holds Try.pinned (OpenSpec.ofChange helloSaysSpec)

/-- ITS FALSE NEIGHBOUR: 'it returns false'. Refute it at one input. -/
def helloSaysWrong : ChangeSpec := { name := "helloSays", fn := fun _ => fun
  | [d1, d2] => { results := [.lit (.bool false)], args := [d1, d2] }
  | _ => none }
def HelloSaysWrongFalsely : Prop := helloSaysRow.holds Try.pinned (OpenSpec.ofChange helloSaysWrong)

/-- 'fingerpostlaw06.HelloBack': WHATEVER THE INPUT: true; the input reads as it did. -/
def helloBackSpec : ChangeSpec := { name := "helloBack", fn := fun _ => fun
  | [d1, d2] => { results := [.lit (.bool true)], args := [d1, d2] }
  | _ => none }
def helloBackRow : OpenClaim := { program := "ytildhamfnfifjaa", sum := "add634e0e8829aa6679a2a7bd221291f8c457c662746c01ef9731b7148db3cb5", func := "fingerpost/fingerpostlaw06.HelloBack", spec := "helloBack", apart := false }
def HelloBackSaid : Prop := helloBackRow.holds Try.pinned (OpenSpec.ofChange helloBackSpec)

/-- ITS FALSE NEIGHBOUR: 'it returns false'. Refute it at one input. -/
def helloBackWrong : ChangeSpec := { name := "helloBack", fn := fun _ => fun
  | [d1, d2] => { results := [.lit (.bool false)], args := [d1, d2] }
  | _ => none }
def HelloBackWrongFalsely : Prop := helloBackRow.holds Try.pinned (OpenSpec.ofChange helloBackWrong)

/-- 'fingerpostlaw06.HelloKnows': WHATEVER THE INPUT: true; the input reads as it did. -/
def helloKnowsSpec : ChangeSpec := { name := "helloKnows", fn := fun _ => fun
  | [d1, d2, d3] => { results := [.lit (.bool true)], args := [d1, d2, d3] }
  | _ => none }
def helloKnowsRow : OpenClaim := { program := "ytildhamfnfifjaa", sum := "add634e0e8829aa6679a2a7bd221291f8c457c662746c01ef9731b7148db3cb5", func := "fingerpost/fingerpostlaw06.HelloKnows", spec := "helloKnows", apart := false }
def HelloKnowsSaid : Prop := helloKnowsRow.holds Try.pinned (OpenSpec.ofChange helloKnowsSpec)

/-- ITS FALSE NEIGHBOUR: 'it returns false'. Refute it at one input. -/
def helloKnowsWrong : ChangeSpec := { name := "helloKnows", fn := fun _ => fun
  | [d1, d2, d3] => { results := [.lit (.bool false)], args := [d1, d2, d3] }
  | _ => none }
def HelloKnowsWrongFalsely : Prop := helloKnowsRow.holds Try.pinned (OpenSpec.ofChange helloKnowsWrong)

/-- 'fingerpostlaw07.ItemBack': WHATEVER THE INPUT: true; the input reads as it did. -/
def itemBackSpec : ChangeSpec := { name := "itemBack", fn := fun _ => fun
  | [d1, d2] => { results := [.lit (.bool true)], args := [d1, d2] }
  | _ => none }
def itemBackRow : OpenClaim := { program := "ytildhamfnfifjaa", sum := "add634e0e8829aa6679a2a7bd221291f8c457c662746c01ef9731b7148db3cb5", func := "fingerpost/fingerpostlaw07.ItemBack", spec := "itemBack", inPlace := ["internal/abi.NoEscape"], apart := false }
def ItemBackSaid : Prop := itemBackRow.holds Try.pinned (OpenSpec.ofChange itemBackSpec)

/-- ITS FALSE NEIGHBOUR: 'it returns false'. Refute it at one input. -/
def itemBackWrong : ChangeSpec := { name := "itemBack", fn := fun _ => fun
  | [d1, d2] => { results := [.lit (.bool false)], args := [d1, d2] }
  | _ => none }
def ItemBackWrongFalsely : Prop := itemBackRow.holds Try.pinned (OpenSpec.ofChange itemBackWrong)

/-- 'fingerpostlaw08.PartSays': WHATEVER THE INPUT: true; the input reads as it did. -/
def partSaysSpec : ChangeSpec := { name := "partSays", fn := fun _ => fun
  | [d1, d2, d3] => { results := [.lit (.bool true)], args := [d1, d2, d3] }
  | _ => none }
def partSaysRow : OpenClaim := { program := "ytildhamfnfifjaa", sum := "add634e0e8829aa6679a2a7bd221291f8c457c662746c01ef9731b7148db3cb5", func := "fingerpost/fingerpostlaw08.PartSays", spec := "partSays", inPlace := ["internal/abi.NoEscape"], apart := false }
def PartSaysSaid : Prop := partSaysRow.holds Try.pinned (OpenSpec.ofChange partSaysSpec)

/-- ITS FALSE NEIGHBOUR: 'it returns false'. Refute it at one input. -/
def partSaysWrong : ChangeSpec := { name := "partSays", fn := fun _ => fun
  | [d1, d2, d3] => { results := [.lit (.bool false)], args := [d1, d2, d3] }
  | _ => none }
def PartSaysWrongFalsely : Prop := partSaysRow.holds Try.pinned (OpenSpec.ofChange partSaysWrong)

/-- 'fingerpostlaw08.PartBack': WHATEVER THE INPUT: true; the input reads as it did. -/
def partBackSpec : ChangeSpec := { name := "partBack", fn := fun _ => fun
  | [d1, d2] => { results := [.lit (.bool true)], args := [d1, d2] }
  | _ => none }
def partBackRow : OpenClaim := { program := "ytildhamfnfifjaa", sum := "add634e0e8829aa6679a2a7bd221291f8c457c662746c01ef9731b7148db3cb5", func := "fingerpost/fingerpostlaw08.PartBack", spec := "partBack", inPlace := ["internal/abi.NoEscape"], apart := false }
def PartBackSaid : Prop := partBackRow.holds Try.pinned (OpenSpec.ofChange partBackSpec)

/-- ITS FALSE NEIGHBOUR: 'it returns false'. Refute it at one input. -/
def partBackWrong : ChangeSpec := { name := "partBack", fn := fun _ => fun
  | [d1, d2] => { results := [.lit (.bool false)], args := [d1, d2] }
  | _ => none }
def PartBackWrongFalsely : Prop := partBackRow.holds Try.pinned (OpenSpec.ofChange partBackWrong)

/-- 'fingerpostlaw09.AcksBack': WHATEVER THE INPUT: true; the input reads as it did. -/
def acksBackSpec : ChangeSpec := { name := "acksBack", fn := fun _ => fun
  | [d1, d2, d3] => { results := [.lit (.bool true)], args := [d1, d2, d3] }
  | _ => none }
def acksBackRow : OpenClaim := { program := "ytildhamfnfifjaa", sum := "add634e0e8829aa6679a2a7bd221291f8c457c662746c01ef9731b7148db3cb5", func := "fingerpost/fingerpostlaw09.AcksBack", spec := "acksBack", apart := false }
def AcksBackSaid : Prop := acksBackRow.holds Try.pinned (OpenSpec.ofChange acksBackSpec)

/-- ITS FALSE NEIGHBOUR: 'it returns false'. Refute it at one input. -/
def acksBackWrong : ChangeSpec := { name := "acksBack", fn := fun _ => fun
  | [d1, d2, d3] => { results := [.lit (.bool false)], args := [d1, d2, d3] }
  | _ => none }
def AcksBackWrongFalsely : Prop := acksBackRow.holds Try.pinned (OpenSpec.ofChange acksBackWrong)

/-- 'fingerpostlaw09.AcksBoth': WHATEVER THE INPUT: true; the input reads as it did. -/
def acksBothSpec : ChangeSpec := { name := "acksBoth", fn := fun _ => fun
  | [d1, d2] => { results := [.lit (.bool true)], args := [d1, d2] }
  | _ => none }
def acksBothRow : OpenClaim := { program := "ytildhamfnfifjaa", sum := "add634e0e8829aa6679a2a7bd221291f8c457c662746c01ef9731b7148db3cb5", func := "fingerpost/fingerpostlaw09.AcksBoth", spec := "acksBoth", apart := false }
def AcksBothSaid : Prop := acksBothRow.holds Try.pinned (OpenSpec.ofChange acksBothSpec)

/-- ITS FALSE NEIGHBOUR: 'it returns false'. Refute it at one input. -/
def acksBothWrong : ChangeSpec := { name := "acksBoth", fn := fun _ => fun
  | [d1, d2] => { results := [.lit (.bool false)], args := [d1, d2] }
  | _ => none }
def AcksBothWrongFalsely : Prop := acksBothRow.holds Try.pinned (OpenSpec.ofChange acksBothWrong)

/-- 'fingerpostlaw10.ParcelBack': WHATEVER THE INPUT: true; the input reads as it did. -/
def parcelBackSpec : ChangeSpec := { name := "parcelBack", fn := fun _ => fun
  | [d1, d2] => { results := [.lit (.bool true)], args := [d1, d2] }
  | _ => none }
def parcelBackRow : OpenClaim := { program := "ytildhamfnfifjaa", sum := "add634e0e8829aa6679a2a7bd221291f8c457c662746c01ef9731b7148db3cb5", func := "fingerpost/fingerpostlaw10.ParcelBack", spec := "parcelBack", apart := false }
def ParcelBackSaid : Prop := parcelBackRow.holds Try.pinned (OpenSpec.ofChange parcelBackSpec)

/-- ITS FALSE NEIGHBOUR: 'it returns false'. Refute it at one input. -/
def parcelBackWrong : ChangeSpec := { name := "parcelBack", fn := fun _ => fun
  | [d1, d2] => { results := [.lit (.bool false)], args := [d1, d2] }
  | _ => none }
def ParcelBackWrongFalsely : Prop := parcelBackRow.holds Try.pinned (OpenSpec.ofChange parcelBackWrong)

/-- 'fingerpostlaw10.ParcelCuts': WHATEVER THE INPUT: true; the input reads as it did. -/
def parcelCutsSpec : ChangeSpec := { name := "parcelCuts", fn := fun _ => fun
  | [d1, d2, d3] => { results := [.lit (.bool true)], args := [d1, d2, d3] }
  | _ => none }
def parcelCutsRow : OpenClaim := { program := "ytildhamfnfifjaa", sum := "add634e0e8829aa6679a2a7bd221291f8c457c662746c01ef9731b7148db3cb5", func := "fingerpost/fingerpostlaw10.ParcelCuts", spec := "parcelCuts", inPlace := ["internal/abi.NoEscape"], apart := false }
def ParcelCutsSaid : Prop := parcelCutsRow.holds Try.pinned (OpenSpec.ofChange parcelCutsSpec)

/-- ITS FALSE NEIGHBOUR: 'it returns false'. Refute it at one input. -/
def parcelCutsWrong : ChangeSpec := { name := "parcelCuts", fn := fun _ => fun
  | [d1, d2, d3] => { results := [.lit (.bool false)], args := [d1, d2, d3] }
  | _ => none }
def ParcelCutsWrongFalsely : Prop := parcelCutsRow.holds Try.pinned (OpenSpec.ofChange parcelCutsWrong)

/-- 'fingerpostlaw18.SplitBack': WHATEVER THE INPUT: true; the input reads as it did. -/
def splitBackSpec : ChangeSpec := { name := "splitBack", fn := fun _ => fun
  | [d] => { results := [.lit (.bool true)], args := [d] }
  | _ => none }
def splitBackRow : OpenClaim := { program := "ytildhamfnfifjaa", sum := "add634e0e8829aa6679a2a7bd221291f8c457c662746c01ef9731b7148db3cb5", func := "fingerpost/fingerpostlaw18.SplitBack", spec := "splitBack", inPlace := ["internal/abi.NoEscape"], apart := false }
def SplitBackSaid : Prop := splitBackRow.holds Try.pinned (OpenSpec.ofChange splitBackSpec)

/-- ITS FALSE NEIGHBOUR: 'it returns false'. Refute it at one input. -/
def splitBackWrong : ChangeSpec := { name := "splitBack", fn := fun _ => fun
  | [d] => { results := [.lit (.bool false)], args := [d] }
  | _ => none }
def SplitBackWrongFalsely : Prop := splitBackRow.holds Try.pinned (OpenSpec.ofChange splitBackWrong)

/- THE SECOND FORM. 'bulk': how many values and letters a reading holds, each counted each time it is reached (what is shared counts as often as it is met; a slice's spare places count too). A statement '..UptoSaid' is the law's where the arguments, and the package variables that the reading takes, are together of bulk at most 1048576: NARROWER than '..Said'. Prove '..Said' where nothing that the law and all that it calls make is longer than what came in: it says more and counts as full. Else prove '..UptoSaid'. A law counts once. -/
mutual
def uptoBulk {H : Type} : DataW H → Nat
  | .lit (.string bytes) => bytes.length + 1
  | .lit _ => 1
  | .nil => 1
  | .ptr d => uptoBulk d + 1
  | .slice elems spare => uptoBulkAll elems + uptoBulkAll spare + 1
  | .agg parts => uptoBulkAll parts + 1
  | .iface _ d => uptoBulk d + 1
  | .map entries => uptoBulkEntries entries + 1
  | .held _ => 1
def uptoBulkAll {H : Type} : List (DataW H) → Nat
  | [] => 0
  | d :: r => uptoBulk d + uptoBulkAll r
def uptoBulkEntries {H : Type} : List (Lit × DataW H) → Nat
  | [] => 0
  | x :: r => uptoBulkEntry x + uptoBulkEntries r
def uptoBulkEntry {H : Type} : Lit × DataW H → Nat
  | (.string bytes, d) => bytes.length + uptoBulk d + 1
  | (_, d) => uptoBulk d + 1
 end
def uptoSmall : (H : Type) → List (DataW H) → Bool := fun _ ds => decide (uptoBulkAll ds ≤ 1048576)
def OpenSpec.upto (s : _root_.Go.ChangeSpec) : _root_.Go.OpenSpec := { _root_.Go.OpenSpec.ofChange s with cond := some uptoSmall }

/-- 'fingerpostlaw06.HelloSays', WHERE WHAT IT READS IS OF BULK AT MOST 1048576: true; the input reads as it did. -/
def helloSaysUptoRow : OpenClaim := { program := "ytildhamfnfifjaa", sum := "add634e0e8829aa6679a2a7bd221291f8c457c662746c01ef9731b7148db3cb5", func := "fingerpost/fingerpostlaw06.HelloSays", spec := "helloSays", apart := false, narrowed := true }
def HelloSaysUptoSaid : Prop := helloSaysUptoRow.holds Try.pinned (OpenSpec.upto helloSaysSpec)

/-- 'fingerpostlaw06.HelloBack', WHERE WHAT IT READS IS OF BULK AT MOST 1048576: true; the input reads as it did. -/
def helloBackUptoRow : OpenClaim := { program := "ytildhamfnfifjaa", sum := "add634e0e8829aa6679a2a7bd221291f8c457c662746c01ef9731b7148db3cb5", func := "fingerpost/fingerpostlaw06.HelloBack", spec := "helloBack", apart := false, narrowed := true }
def HelloBackUptoSaid : Prop := helloBackUptoRow.holds Try.pinned (OpenSpec.upto helloBackSpec)

/-- 'fingerpostlaw06.HelloKnows', WHERE WHAT IT READS IS OF BULK AT MOST 1048576: true; the input reads as it did. -/
def helloKnowsUptoRow : OpenClaim := { program := "ytildhamfnfifjaa", sum := "add634e0e8829aa6679a2a7bd221291f8c457c662746c01ef9731b7148db3cb5", func := "fingerpost/fingerpostlaw06.HelloKnows", spec := "helloKnows", apart := false, narrowed := true }
def HelloKnowsUptoSaid : Prop := helloKnowsUptoRow.holds Try.pinned (OpenSpec.upto helloKnowsSpec)

/-- 'fingerpostlaw07.ItemBack', WHERE WHAT IT READS IS OF BULK AT MOST 1048576: true; the input reads as it did. -/
def itemBackUptoRow : OpenClaim := { program := "ytildhamfnfifjaa", sum := "add634e0e8829aa6679a2a7bd221291f8c457c662746c01ef9731b7148db3cb5", func := "fingerpost/fingerpostlaw07.ItemBack", spec := "itemBack", inPlace := ["internal/abi.NoEscape"], apart := false, narrowed := true }
def ItemBackUptoSaid : Prop := itemBackUptoRow.holds Try.pinned (OpenSpec.upto itemBackSpec)

/-- 'fingerpostlaw08.PartSays', WHERE WHAT IT READS IS OF BULK AT MOST 1048576: true; the input reads as it did. -/
def partSaysUptoRow : OpenClaim := { program := "ytildhamfnfifjaa", sum := "add634e0e8829aa6679a2a7bd221291f8c457c662746c01ef9731b7148db3cb5", func := "fingerpost/fingerpostlaw08.PartSays", spec := "partSays", inPlace := ["internal/abi.NoEscape"], apart := false, narrowed := true }
def PartSaysUptoSaid : Prop := partSaysUptoRow.holds Try.pinned (OpenSpec.upto partSaysSpec)

/-- 'fingerpostlaw08.PartBack', WHERE WHAT IT READS IS OF BULK AT MOST 1048576: true; the input reads as it did. -/
def partBackUptoRow : OpenClaim := { program := "ytildhamfnfifjaa", sum := "add634e0e8829aa6679a2a7bd221291f8c457c662746c01ef9731b7148db3cb5", func := "fingerpost/fingerpostlaw08.PartBack", spec := "partBack", inPlace := ["internal/abi.NoEscape"], apart := false, narrowed := true }
def PartBackUptoSaid : Prop := partBackUptoRow.holds Try.pinned (OpenSpec.upto partBackSpec)

/-- 'fingerpostlaw09.AcksBack', WHERE WHAT IT READS IS OF BULK AT MOST 1048576: true; the input reads as it did. -/
def acksBackUptoRow : OpenClaim := { program := "ytildhamfnfifjaa", sum := "add634e0e8829aa6679a2a7bd221291f8c457c662746c01ef9731b7148db3cb5", func := "fingerpost/fingerpostlaw09.AcksBack", spec := "acksBack", apart := false, narrowed := true }
def AcksBackUptoSaid : Prop := acksBackUptoRow.holds Try.pinned (OpenSpec.upto acksBackSpec)

/-- 'fingerpostlaw09.AcksBoth', WHERE WHAT IT READS IS OF BULK AT MOST 1048576: true; the input reads as it did. -/
def acksBothUptoRow : OpenClaim := { program := "ytildhamfnfifjaa", sum := "add634e0e8829aa6679a2a7bd221291f8c457c662746c01ef9731b7148db3cb5", func := "fingerpost/fingerpostlaw09.AcksBoth", spec := "acksBoth", apart := false, narrowed := true }
def AcksBothUptoSaid : Prop := acksBothUptoRow.holds Try.pinned (OpenSpec.upto acksBothSpec)

/-- 'fingerpostlaw10.ParcelBack', WHERE WHAT IT READS IS OF BULK AT MOST 1048576: true; the input reads as it did. -/
def parcelBackUptoRow : OpenClaim := { program := "ytildhamfnfifjaa", sum := "add634e0e8829aa6679a2a7bd221291f8c457c662746c01ef9731b7148db3cb5", func := "fingerpost/fingerpostlaw10.ParcelBack", spec := "parcelBack", apart := false, narrowed := true }
def ParcelBackUptoSaid : Prop := parcelBackUptoRow.holds Try.pinned (OpenSpec.upto parcelBackSpec)

/-- 'fingerpostlaw10.ParcelCuts', WHERE WHAT IT READS IS OF BULK AT MOST 1048576: true; the input reads as it did. -/
def parcelCutsUptoRow : OpenClaim := { program := "ytildhamfnfifjaa", sum := "add634e0e8829aa6679a2a7bd221291f8c457c662746c01ef9731b7148db3cb5", func := "fingerpost/fingerpostlaw10.ParcelCuts", spec := "parcelCuts", inPlace := ["internal/abi.NoEscape"], apart := false, narrowed := true }
def ParcelCutsUptoSaid : Prop := parcelCutsUptoRow.holds Try.pinned (OpenSpec.upto parcelCutsSpec)

/-- 'fingerpostlaw18.SplitBack', WHERE WHAT IT READS IS OF BULK AT MOST 1048576: true; the input reads as it did. -/
def splitBackUptoRow : OpenClaim := { program := "ytildhamfnfifjaa", sum := "add634e0e8829aa6679a2a7bd221291f8c457c662746c01ef9731b7148db3cb5", func := "fingerpost/fingerpostlaw18.SplitBack", spec := "splitBack", inPlace := ["internal/abi.NoEscape"], apart := false, narrowed := true }
def SplitBackUptoSaid : Prop := splitBackUptoRow.holds Try.pinned (OpenSpec.upto splitBackSpec)

end Rows
end Go.Proofs.Ytildhamfnfifjaa

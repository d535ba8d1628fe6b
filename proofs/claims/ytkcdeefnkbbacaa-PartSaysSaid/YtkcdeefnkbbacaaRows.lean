/-
  No cell of these rows narrows 'for every input' (looked for: loops, veiled, ifaces, maps, wideKeys, modest, calm, conditions, laid).
  DERIVED. THE GIVEN ROWS OF THIS SEAT. 12 by the template 'for every input the law returns true; each argument reads behind the call as it read before'; 0 by the template 'total and deterministic' (their statements: YtkcdeefnkbbacaaTotals.lean).
  GIVEN WITH THE SEED: the statements are not yours to turn. If you find one false, say at which input.
  Laid BY PROGRAM, IN A SANDBOX (cutbox-rows.mjs): the forced cells as the released guide's own fill.sh prints them over the translation a2c4157215c033d6… (all of the seat's roots in one cut). By AI agents, Wed Nov 11 2026. No macro, syntax, notation, axiom, sorry.
-/
import Derived.Test.YtkcdeefnkbbacaaChecked
import GoSem.Claim
import GoSem.ClaimJoined
import GoSem.ClaimMapViews
import Derived.JoinedTies
import Derived.KernelRfl
namespace Go.Proofs.Ytkcdeefnkbbacaa
/- THE CELL 'sum', in the pinned program and in every row, IS THE sha256 OF THE DUMP (.gsa) THAT YtkcdeefnkbbacaaProg.lean LOADS. Nothing in Lean hashes anything: it is a label: what it is worth is what the hold of that sum in a sandbox is worth. -/
noncomputable def Try.pinned : Pinned := { name := "ytkcdeefnkbbacaa", sum := "a2c4157215c033d681e56b2a2597b9947a0f2e8c520c8d2b6bdbdeb746becdfd", checked := Try.checked }
namespace Rows
def none {H : Type} : Left H := { results := [], args := [] }

/-- 'fingerpostlaw06.HelloSays': WHATEVER THE INPUT: true; the input reads as it did. -/
def helloSaysSpec : ChangeSpec := { name := "helloSays", fn := fun _ => fun
  | [d1, d2] => { results := [.lit (.bool true)], args := [d1, d2] }
  | _ => none }
def helloSaysRow : OpenClaim := { program := "ytkcdeefnkbbacaa", sum := "a2c4157215c033d681e56b2a2597b9947a0f2e8c520c8d2b6bdbdeb746becdfd", func := "fingerpost/fingerpostlaw06.HelloSays", spec := "helloSays", apart := false }
def HelloSaysSaid : Prop := helloSaysRow.holds Try.pinned (OpenSpec.ofChange helloSaysSpec)

/-- ITS FALSE NEIGHBOUR: 'it returns false'. Refute it at one input. -/
def helloSaysWrong : ChangeSpec := { name := "helloSays", fn := fun _ => fun
  | [d1, d2] => { results := [.lit (.bool false)], args := [d1, d2] }
  | _ => none }
def HelloSaysWrongFalsely : Prop := helloSaysRow.holds Try.pinned (OpenSpec.ofChange helloSaysWrong)

/-- 'fingerpostlaw07.ItemBack': WHATEVER THE INPUT: true; the input reads as it did. -/
def itemBackSpec : ChangeSpec := { name := "itemBack", fn := fun _ => fun
  | [d1, d2] => { results := [.lit (.bool true)], args := [d1, d2] }
  | _ => none }
def itemBackRow : OpenClaim := { program := "ytkcdeefnkbbacaa", sum := "a2c4157215c033d681e56b2a2597b9947a0f2e8c520c8d2b6bdbdeb746becdfd", func := "fingerpost/fingerpostlaw07.ItemBack", spec := "itemBack", inPlace := ["internal/abi.NoEscape"], apart := false }
def ItemBackSaid : Prop := itemBackRow.holds Try.pinned (OpenSpec.ofChange itemBackSpec)

/-- ITS FALSE NEIGHBOUR: 'it returns false'. Refute it at one input. -/
def itemBackWrong : ChangeSpec := { name := "itemBack", fn := fun _ => fun
  | [d1, d2] => { results := [.lit (.bool false)], args := [d1, d2] }
  | _ => none }
def ItemBackWrongFalsely : Prop := itemBackRow.holds Try.pinned (OpenSpec.ofChange itemBackWrong)

/-- 'fingerpostlaw08.PartSays': WHATEVER THE INPUT: true; the input reads as it did. -/
def partSaysSpec : ChangeSpec := { name := "partSays", fn := fun _ => fun
  | [d1, d2, d3] => { results := [.lit (.bool true)], args := [d1, d2, d3] }
  | _ => none }
def partSaysRow : OpenClaim := { program := "ytkcdeefnkbbacaa", sum := "a2c4157215c033d681e56b2a2597b9947a0f2e8c520c8d2b6bdbdeb746becdfd", func := "fingerpost/fingerpostlaw08.PartSays", spec := "partSays", inPlace := ["internal/abi.NoEscape"], apart := false }
def PartSaysSaid : Prop := partSaysRow.holds Try.pinned (OpenSpec.ofChange partSaysSpec)

/-- ITS FALSE NEIGHBOUR: 'it returns false'. Refute it at one input. -/
def partSaysWrong : ChangeSpec := { name := "partSays", fn := fun _ => fun
  | [d1, d2, d3] => { results := [.lit (.bool false)], args := [d1, d2, d3] }
  | _ => none }
def PartSaysWrongFalsely : Prop := partSaysRow.holds Try.pinned (OpenSpec.ofChange partSaysWrong)

/-- 'fingerpostlaw08.PartBack': WHATEVER THE INPUT: true; the input reads as it did. -/
def partBackSpec : ChangeSpec := { name := "partBack", fn := fun _ => fun
  | [d1, d2] => { results := [.lit (.bool true)], args := [d1, d2] }
  | _ => none }
def partBackRow : OpenClaim := { program := "ytkcdeefnkbbacaa", sum := "a2c4157215c033d681e56b2a2597b9947a0f2e8c520c8d2b6bdbdeb746becdfd", func := "fingerpost/fingerpostlaw08.PartBack", spec := "partBack", inPlace := ["internal/abi.NoEscape"], apart := false }
def PartBackSaid : Prop := partBackRow.holds Try.pinned (OpenSpec.ofChange partBackSpec)

/-- ITS FALSE NEIGHBOUR: 'it returns false'. Refute it at one input. -/
def partBackWrong : ChangeSpec := { name := "partBack", fn := fun _ => fun
  | [d1, d2] => { results := [.lit (.bool false)], args := [d1, d2] }
  | _ => none }
def PartBackWrongFalsely : Prop := partBackRow.holds Try.pinned (OpenSpec.ofChange partBackWrong)

/-- 'fingerpostlaw09.AcksBack': WHATEVER THE INPUT: true; the input reads as it did. -/
def acksBackSpec : ChangeSpec := { name := "acksBack", fn := fun _ => fun
  | [d1, d2, d3] => { results := [.lit (.bool true)], args := [d1, d2, d3] }
  | _ => none }
def acksBackRow : OpenClaim := { program := "ytkcdeefnkbbacaa", sum := "a2c4157215c033d681e56b2a2597b9947a0f2e8c520c8d2b6bdbdeb746becdfd", func := "fingerpost/fingerpostlaw09.AcksBack", spec := "acksBack", apart := false }
def AcksBackSaid : Prop := acksBackRow.holds Try.pinned (OpenSpec.ofChange acksBackSpec)

/-- ITS FALSE NEIGHBOUR: 'it returns false'. Refute it at one input. -/
def acksBackWrong : ChangeSpec := { name := "acksBack", fn := fun _ => fun
  | [d1, d2, d3] => { results := [.lit (.bool false)], args := [d1, d2, d3] }
  | _ => none }
def AcksBackWrongFalsely : Prop := acksBackRow.holds Try.pinned (OpenSpec.ofChange acksBackWrong)

/-- 'fingerpostlaw09.AcksBoth': WHATEVER THE INPUT: true; the input reads as it did. -/
def acksBothSpec : ChangeSpec := { name := "acksBoth", fn := fun _ => fun
  | [d1, d2] => { results := [.lit (.bool true)], args := [d1, d2] }
  | _ => none }
def acksBothRow : OpenClaim := { program := "ytkcdeefnkbbacaa", sum := "a2c4157215c033d681e56b2a2597b9947a0f2e8c520c8d2b6bdbdeb746becdfd", func := "fingerpost/fingerpostlaw09.AcksBoth", spec := "acksBoth", apart := false }
def AcksBothSaid : Prop := acksBothRow.holds Try.pinned (OpenSpec.ofChange acksBothSpec)

/-- ITS FALSE NEIGHBOUR: 'it returns false'. Refute it at one input. -/
def acksBothWrong : ChangeSpec := { name := "acksBoth", fn := fun _ => fun
  | [d1, d2] => { results := [.lit (.bool false)], args := [d1, d2] }
  | _ => none }
def AcksBothWrongFalsely : Prop := acksBothRow.holds Try.pinned (OpenSpec.ofChange acksBothWrong)

/-- 'fingerpostlaw10.ParcelBack': WHATEVER THE INPUT: true; the input reads as it did. -/
def parcelBackSpec : ChangeSpec := { name := "parcelBack", fn := fun _ => fun
  | [d1, d2] => { results := [.lit (.bool true)], args := [d1, d2] }
  | _ => none }
def parcelBackRow : OpenClaim := { program := "ytkcdeefnkbbacaa", sum := "a2c4157215c033d681e56b2a2597b9947a0f2e8c520c8d2b6bdbdeb746becdfd", func := "fingerpost/fingerpostlaw10.ParcelBack", spec := "parcelBack", apart := false }
def ParcelBackSaid : Prop := parcelBackRow.holds Try.pinned (OpenSpec.ofChange parcelBackSpec)

/-- ITS FALSE NEIGHBOUR: 'it returns false'. Refute it at one input. -/
def parcelBackWrong : ChangeSpec := { name := "parcelBack", fn := fun _ => fun
  | [d1, d2] => { results := [.lit (.bool false)], args := [d1, d2] }
  | _ => none }
def ParcelBackWrongFalsely : Prop := parcelBackRow.holds Try.pinned (OpenSpec.ofChange parcelBackWrong)

/-- 'fingerpostlaw10.ParcelCuts': WHATEVER THE INPUT: true; the input reads as it did. -/
def parcelCutsSpec : ChangeSpec := { name := "parcelCuts", fn := fun _ => fun
  | [d1, d2, d3] => { results := [.lit (.bool true)], args := [d1, d2, d3] }
  | _ => none }
def parcelCutsRow : OpenClaim := { program := "ytkcdeefnkbbacaa", sum := "a2c4157215c033d681e56b2a2597b9947a0f2e8c520c8d2b6bdbdeb746becdfd", func := "fingerpost/fingerpostlaw10.ParcelCuts", spec := "parcelCuts", inPlace := ["internal/abi.NoEscape"], apart := false }
def ParcelCutsSaid : Prop := parcelCutsRow.holds Try.pinned (OpenSpec.ofChange parcelCutsSpec)

/-- ITS FALSE NEIGHBOUR: 'it returns false'. Refute it at one input. -/
def parcelCutsWrong : ChangeSpec := { name := "parcelCuts", fn := fun _ => fun
  | [d1, d2, d3] => { results := [.lit (.bool false)], args := [d1, d2, d3] }
  | _ => none }
def ParcelCutsWrongFalsely : Prop := parcelCutsRow.holds Try.pinned (OpenSpec.ofChange parcelCutsWrong)

/-- 'fingerpostlaw18.SplitBack': WHATEVER THE INPUT: true; the input reads as it did. -/
def splitBackSpec : ChangeSpec := { name := "splitBack", fn := fun _ => fun
  | [d] => { results := [.lit (.bool true)], args := [d] }
  | _ => none }
def splitBackRow : OpenClaim := { program := "ytkcdeefnkbbacaa", sum := "a2c4157215c033d681e56b2a2597b9947a0f2e8c520c8d2b6bdbdeb746becdfd", func := "fingerpost/fingerpostlaw18.SplitBack", spec := "splitBack", inPlace := ["internal/abi.NoEscape"], apart := false }
def SplitBackSaid : Prop := splitBackRow.holds Try.pinned (OpenSpec.ofChange splitBackSpec)

/-- ITS FALSE NEIGHBOUR: 'it returns false'. Refute it at one input. -/
def splitBackWrong : ChangeSpec := { name := "splitBack", fn := fun _ => fun
  | [d] => { results := [.lit (.bool false)], args := [d] }
  | _ => none }
def SplitBackWrongFalsely : Prop := splitBackRow.holds Try.pinned (OpenSpec.ofChange splitBackWrong)

/-- 'fingerpostlaw16.WindowTurns': WHATEVER THE INPUT: true; the input reads as it did. -/
def windowTurnsSpec : ChangeSpec := { name := "windowTurns", fn := fun _ => fun
  | [d] => { results := [.lit (.bool true)], args := [d] }
  | _ => none }
def windowTurnsRow : OpenClaim := { program := "ytkcdeefnkbbacaa", sum := "a2c4157215c033d681e56b2a2597b9947a0f2e8c520c8d2b6bdbdeb746becdfd", func := "fingerpost/fingerpostlaw16.WindowTurns", spec := "windowTurns", inPlace := ["internal/abi.NoEscape"], unfollowed := true, recurses := true, apart := false }
def WindowTurnsSaid : Prop := windowTurnsRow.holds Try.pinned (OpenSpec.ofChange windowTurnsSpec)

/-- ITS FALSE NEIGHBOUR: 'it returns false'. Refute it at one input. -/
def windowTurnsWrong : ChangeSpec := { name := "windowTurns", fn := fun _ => fun
  | [d] => { results := [.lit (.bool false)], args := [d] }
  | _ => none }
def WindowTurnsWrongFalsely : Prop := windowTurnsRow.holds Try.pinned (OpenSpec.ofChange windowTurnsWrong)

/-- 'fingerpostlaw16.WindowGaps': WHATEVER THE INPUT: true; the input reads as it did. -/
def windowGapsSpec : ChangeSpec := { name := "windowGaps", fn := fun _ => fun
  | [d1, d2] => { results := [.lit (.bool true)], args := [d1, d2] }
  | _ => none }
def windowGapsRow : OpenClaim := { program := "ytkcdeefnkbbacaa", sum := "a2c4157215c033d681e56b2a2597b9947a0f2e8c520c8d2b6bdbdeb746becdfd", func := "fingerpost/fingerpostlaw16.WindowGaps", spec := "windowGaps", inPlace := ["internal/abi.NoEscape"], unfollowed := true, recurses := true, apart := false }
def WindowGapsSaid : Prop := windowGapsRow.holds Try.pinned (OpenSpec.ofChange windowGapsSpec)

/-- ITS FALSE NEIGHBOUR: 'it returns false'. Refute it at one input. -/
def windowGapsWrong : ChangeSpec := { name := "windowGaps", fn := fun _ => fun
  | [d1, d2] => { results := [.lit (.bool false)], args := [d1, d2] }
  | _ => none }
def WindowGapsWrongFalsely : Prop := windowGapsRow.holds Try.pinned (OpenSpec.ofChange windowGapsWrong)

/-- 'fingerpostlaw15.SerialRuns': WHATEVER THE INPUT: true; the input reads as it did. -/
def serialRunsSpec : ChangeSpec := { name := "serialRuns", fn := fun _ => fun
  | [d1, d2, d3] => { results := [.lit (.bool true)], args := [d1, d2, d3] }
  | _ => none }
def serialRunsRow : OpenClaim := { program := "ytkcdeefnkbbacaa", sum := "a2c4157215c033d681e56b2a2597b9947a0f2e8c520c8d2b6bdbdeb746becdfd", func := "fingerpost/fingerpostlaw15.SerialRuns", spec := "serialRuns", recurses := true, apart := false }
def SerialRunsSaid : Prop := serialRunsRow.holds Try.pinned (OpenSpec.ofChange serialRunsSpec)

/-- ITS FALSE NEIGHBOUR: 'it returns false'. Refute it at one input. -/
def serialRunsWrong : ChangeSpec := { name := "serialRuns", fn := fun _ => fun
  | [d1, d2, d3] => { results := [.lit (.bool false)], args := [d1, d2, d3] }
  | _ => none }
def SerialRunsWrongFalsely : Prop := serialRunsRow.holds Try.pinned (OpenSpec.ofChange serialRunsWrong)

/- THE SECOND FORM. 'bulk': how many values and letters a reading holds, each counted each time it is reached (what is shared counts as often as it is met; a slice's spare places count too). A statement '..UptoSaid' is the law's where the arguments, and the package variables that the reading takes, are together of bulk at most 1048576: NARROWER than '..Said'. Prove '..Said' where nothing that the law and all that it calls make is longer than what came in: it says more and counts as full. Else prove '..UptoSaid'. A law counts once. -/
mutual
def uptoBulk {H : Type} : DataW H → Nat
  | .lit (.string bytes) => bytes.length + 1
  | .lit _ => 1
  | .nil => 1
  | .ptr d => uptoBulk d + 1
  | .slice elems spare => uptoBulkAll elems + uptoBulkAll spare + 1
  | .agg parts => uptoBulkAll parts + 1
  | .iface _ d => uptoBulk d + 1
  | .map entries => uptoBulkEntries entries + 1
  | .held _ => 1
def uptoBulkAll {H : Type} : List (DataW H) → Nat
  | [] => 0
  | d :: r => uptoBulk d + uptoBulkAll r
def uptoBulkEntries {H : Type} : List (Lit × DataW H) → Nat
  | [] => 0
  | x :: r => uptoBulkEntry x + uptoBulkEntries r
def uptoBulkEntry {H : Type} : Lit × DataW H → Nat
  | (.string bytes, d) => bytes.length + uptoBulk d + 1
  | (_, d) => uptoBulk d + 1
 end
def uptoSmall : (H : Type) → List (DataW H) → Bool := fun _ ds => decide (uptoBulkAll ds ≤ 1048576)
def OpenSpec.upto (s : _root_.Go.ChangeSpec) : _root_.Go.OpenSpec := { _root_.Go.OpenSpec.ofChange s with cond := some uptoSmall }

/-- 'fingerpostlaw06.HelloSays', WHERE WHAT IT READS IS OF BULK AT MOST 1048576: true; the input reads as it did. -/
def helloSaysUptoRow : OpenClaim := { program := "ytkcdeefnkbbacaa", sum := "a2c4157215c033d681e56b2a2597b9947a0f2e8c520c8d2b6bdbdeb746becdfd", func := "fingerpost/fingerpostlaw06.HelloSays", spec := "helloSays", apart := false, narrowed := true }
def HelloSaysUptoSaid : Prop := helloSaysUptoRow.holds Try.pinned (OpenSpec.upto helloSaysSpec)

/-- 'fingerpostlaw07.ItemBack', WHERE WHAT IT READS IS OF BULK AT MOST 1048576: true; the input reads as it did. -/
def itemBackUptoRow : OpenClaim := { program := "ytkcdeefnkbbacaa", sum := "a2c4157215c033d681e56b2a2597b9947a0f2e8c520c8d2b6bdbdeb746becdfd", func := "fingerpost/fingerpostlaw07.ItemBack", spec := "itemBack", inPlace := ["internal/abi.NoEscape"], apart := false, narrowed := true }
def ItemBackUptoSaid : Prop := itemBackUptoRow.holds Try.pinned (OpenSpec.upto itemBackSpec)

/-- 'fingerpostlaw08.PartSays', WHERE WHAT IT READS IS OF BULK AT MOST 1048576: true; the input reads as it did. -/
def partSaysUptoRow : OpenClaim := { program := "ytkcdeefnkbbacaa", sum := "a2c4157215c033d681e56b2a2597b9947a0f2e8c520c8d2b6bdbdeb746becdfd", func := "fingerpost/fingerpostlaw08.PartSays", spec := "partSays", inPlace := ["internal/abi.NoEscape"], apart := false, narrowed := true }
def PartSaysUptoSaid : Prop := partSaysUptoRow.holds Try.pinned (OpenSpec.upto partSaysSpec)

/-- 'fingerpostlaw08.PartBack', WHERE WHAT IT READS IS OF BULK AT MOST 1048576: true; the input reads as it did. -/
def partBackUptoRow : OpenClaim := { program := "ytkcdeefnkbbacaa", sum := "a2c4157215c033d681e56b2a2597b9947a0f2e8c520c8d2b6bdbdeb746becdfd", func := "fingerpost/fingerpostlaw08.PartBack", spec := "partBack", inPlace := ["internal/abi.NoEscape"], apart := false, narrowed := true }
def PartBackUptoSaid : Prop := partBackUptoRow.holds Try.pinned (OpenSpec.upto partBackSpec)

/-- 'fingerpostlaw09.AcksBack', WHERE WHAT IT READS IS OF BULK AT MOST 1048576: true; the input reads as it did. -/
def acksBackUptoRow : OpenClaim := { program := "ytkcdeefnkbbacaa", sum := "a2c4157215c033d681e56b2a2597b9947a0f2e8c520c8d2b6bdbdeb746becdfd", func := "fingerpost/fingerpostlaw09.AcksBack", spec := "acksBack", apart := false, narrowed := true }
def AcksBackUptoSaid : Prop := acksBackUptoRow.holds Try.pinned (OpenSpec.upto acksBackSpec)

/-- 'fingerpostlaw09.AcksBoth', WHERE WHAT IT READS IS OF BULK AT MOST 1048576: true; the input reads as it did. -/
def acksBothUptoRow : OpenClaim := { program := "ytkcdeefnkbbacaa", sum := "a2c4157215c033d681e56b2a2597b9947a0f2e8c520c8d2b6bdbdeb746becdfd", func := "fingerpost/fingerpostlaw09.AcksBoth", spec := "acksBoth", apart := false, narrowed := true }
def AcksBothUptoSaid : Prop := acksBothUptoRow.holds Try.pinned (OpenSpec.upto acksBothSpec)

/-- 'fingerpostlaw10.ParcelBack', WHERE WHAT IT READS IS OF BULK AT MOST 1048576: true; the input reads as it did. -/
def parcelBackUptoRow : OpenClaim := { program := "ytkcdeefnkbbacaa", sum := "a2c4157215c033d681e56b2a2597b9947a0f2e8c520c8d2b6bdbdeb746becdfd", func := "fingerpost/fingerpostlaw10.ParcelBack", spec := "parcelBack", apart := false, narrowed := true }
def ParcelBackUptoSaid : Prop := parcelBackUptoRow.holds Try.pinned (OpenSpec.upto parcelBackSpec)

/-- 'fingerpostlaw10.ParcelCuts', WHERE WHAT IT READS IS OF BULK AT MOST 1048576: true; the input reads as it did. -/
def parcelCutsUptoRow : OpenClaim := { program := "ytkcdeefnkbbacaa", sum := "a2c4157215c033d681e56b2a2597b9947a0f2e8c520c8d2b6bdbdeb746becdfd", func := "fingerpost/fingerpostlaw10.ParcelCuts", spec := "parcelCuts", inPlace := ["internal/abi.NoEscape"], apart := false, narrowed := true }
def ParcelCutsUptoSaid : Prop := parcelCutsUptoRow.holds Try.pinned (OpenSpec.upto parcelCutsSpec)

/-- 'fingerpostlaw18.SplitBack', WHERE WHAT IT READS IS OF BULK AT MOST 1048576: true; the input reads as it did. -/
def splitBackUptoRow : OpenClaim := { program := "ytkcdeefnkbbacaa", sum := "a2c4157215c033d681e56b2a2597b9947a0f2e8c520c8d2b6bdbdeb746becdfd", func := "fingerpost/fingerpostlaw18.SplitBack", spec := "splitBack", inPlace := ["internal/abi.NoEscape"], apart := false, narrowed := true }
def SplitBackUptoSaid : Prop := splitBackUptoRow.holds Try.pinned (OpenSpec.upto splitBackSpec)

/-- 'fingerpostlaw16.WindowTurns', WHERE WHAT IT READS IS OF BULK AT MOST 1048576: true; the input reads as it did. -/
def windowTurnsUptoRow : OpenClaim := { program := "ytkcdeefnkbbacaa", sum := "a2c4157215c033d681e56b2a2597b9947a0f2e8c520c8d2b6bdbdeb746becdfd", func := "fingerpost/fingerpostlaw16.WindowTurns", spec := "windowTurns", inPlace := ["internal/abi.NoEscape"], unfollowed := true, recurses := true, apart := false, narrowed := true }
def WindowTurnsUptoSaid : Prop := windowTurnsUptoRow.holds Try.pinned (OpenSpec.upto windowTurnsSpec)

/-- 'fingerpostlaw16.WindowGaps', WHERE WHAT IT READS IS OF BULK AT MOST 1048576: true; the input reads as it did. -/
def windowGapsUptoRow : OpenClaim := { program := "ytkcdeefnkbbacaa", sum := "a2c4157215c033d681e56b2a2597b9947a0f2e8c520c8d2b6bdbdeb746becdfd", func := "fingerpost/fingerpostlaw16.WindowGaps", spec := "windowGaps", inPlace := ["internal/abi.NoEscape"], unfollowed := true, recurses := true, apart := false, narrowed := true }
def WindowGapsUptoSaid : Prop := windowGapsUptoRow.holds Try.pinned (OpenSpec.upto windowGapsSpec)

/-- 'fingerpostlaw15.SerialRuns', WHERE WHAT IT READS IS OF BULK AT MOST 1048576: true; the input reads as it did. -/
def serialRunsUptoRow : OpenClaim := { program := "ytkcdeefnkbbacaa", sum := "a2c4157215c033d681e56b2a2597b9947a0f2e8c520c8d2b6bdbdeb746becdfd", func := "fingerpost/fingerpostlaw15.SerialRuns", spec := "serialRuns", recurses := true, apart := false, narrowed := true }
def SerialRunsUptoSaid : Prop := serialRunsUptoRow.holds Try.pinned (OpenSpec.upto serialRunsSpec)

end Rows
end Go.Proofs.Ytkcdeefnkbbacaa

/-
  No cell of these rows narrows 'for every input' (looked for: loops, veiled, ifaces, maps, wideKeys, modest, calm, conditions, laid).
  DERIVED. THE GIVEN ROWS OF THIS SEAT. 12 by the template 'for every input the law returns true; each argument reads behind the call as it read before'; 0 by the template 'total and deterministic' (their statements: YtmchbkmenokkdaaTotals.lean).
  GIVEN WITH THE SEED: the statements are not yours to turn. If you find one false, say at which input.
  Laid BY PROGRAM, IN A SANDBOX (cutbox-rows.mjs): the forced cells as the released guide's own fill.sh prints them over the translation 9b6dabf333e98b46… (all of the seat's roots in one cut). By AI agents, Wed Nov 11 2026. No macro, syntax, notation, axiom, sorry.
-/
import Derived.Test.YtmchbkmenokkdaaChecked
import GoSem.Claim
import GoSem.ClaimJoined
import GoSem.ClaimMapViews
import Derived.JoinedTies
import Derived.KernelRfl
namespace Go.Proofs.Ytmchbkmenokkdaa
/- THE CELL 'sum', in the pinned program and in every row, IS THE sha256 OF THE DUMP (.gsa) THAT YtmchbkmenokkdaaProg.lean LOADS. Nothing in Lean hashes anything: it is a label: what it is worth is what the hold of that sum in a sandbox is worth. -/
noncomputable def Try.pinned : Pinned := { name := "ytmchbkmenokkdaa", sum := "9b6dabf333e98b465dc2c0f8cb40b1d5366cd324d418c8b28bf4ab2f0a2e61ac", checked := Try.checked }
namespace Rows
def none {H : Type} : Left H := { results := [], args := [] }

/-- 'fingerpostlaw12.RingFirst': WHATEVER THE INPUT: true; the input reads as it did. -/
def ringFirstSpec : ChangeSpec := { name := "ringFirst", fn := fun _ => fun
  | [d1, d2] => { results := [.lit (.bool true)], args := [d1, d2] }
  | _ => none }
def ringFirstRow : OpenClaim := { program := "ytmchbkmenokkdaa", sum := "9b6dabf333e98b465dc2c0f8cb40b1d5366cd324d418c8b28bf4ab2f0a2e61ac", func := "fingerpost/fingerpostlaw12.RingFirst", spec := "ringFirst", apart := false }
def RingFirstSaid : Prop := ringFirstRow.holds Try.pinned (OpenSpec.ofChange ringFirstSpec)

/-- ITS FALSE NEIGHBOUR: 'it returns false'. Refute it at one input. -/
def ringFirstWrong : ChangeSpec := { name := "ringFirst", fn := fun _ => fun
  | [d1, d2] => { results := [.lit (.bool false)], args := [d1, d2] }
  | _ => none }
def RingFirstWrongFalsely : Prop := ringFirstRow.holds Try.pinned (OpenSpec.ofChange ringFirstWrong)

/-- 'fingerpostlaw12.RingMoves': WHATEVER THE INPUT: true; the input reads as it did. -/
def ringMovesSpec : ChangeSpec := { name := "ringMoves", fn := fun _ => fun
  | [d1, d2, d3] => { results := [.lit (.bool true)], args := [d1, d2, d3] }
  | _ => none }
def ringMovesRow : OpenClaim := { program := "ytmchbkmenokkdaa", sum := "9b6dabf333e98b465dc2c0f8cb40b1d5366cd324d418c8b28bf4ab2f0a2e61ac", func := "fingerpost/fingerpostlaw12.RingMoves", spec := "ringMoves", apart := false }
def RingMovesSaid : Prop := ringMovesRow.holds Try.pinned (OpenSpec.ofChange ringMovesSpec)

/-- ITS FALSE NEIGHBOUR: 'it returns false'. Refute it at one input. -/
def ringMovesWrong : ChangeSpec := { name := "ringMoves", fn := fun _ => fun
  | [d1, d2, d3] => { results := [.lit (.bool false)], args := [d1, d2, d3] }
  | _ => none }
def RingMovesWrongFalsely : Prop := ringMovesRow.holds Try.pinned (OpenSpec.ofChange ringMovesWrong)

/-- 'fingerpostlaw13.TimerOnce': WHATEVER THE INPUT: true; the input reads as it did. -/
def timerOnceSpec : ChangeSpec := { name := "timerOnce", fn := fun _ => fun
  | [d1, d2] => { results := [.lit (.bool true)], args := [d1, d2] }
  | _ => none }
def timerOnceRow : OpenClaim := { program := "ytmchbkmenokkdaa", sum := "9b6dabf333e98b465dc2c0f8cb40b1d5366cd324d418c8b28bf4ab2f0a2e61ac", func := "fingerpost/fingerpostlaw13.TimerOnce", spec := "timerOnce", apart := false }
def TimerOnceSaid : Prop := timerOnceRow.holds Try.pinned (OpenSpec.ofChange timerOnceSpec)

/-- ITS FALSE NEIGHBOUR: 'it returns false'. Refute it at one input. -/
def timerOnceWrong : ChangeSpec := { name := "timerOnce", fn := fun _ => fun
  | [d1, d2] => { results := [.lit (.bool false)], args := [d1, d2] }
  | _ => none }
def TimerOnceWrongFalsely : Prop := timerOnceRow.holds Try.pinned (OpenSpec.ofChange timerOnceWrong)

/-- 'fingerpostlaw13.TimerRuns': WHATEVER THE INPUT: true; the input reads as it did. -/
def timerRunsSpec : ChangeSpec := { name := "timerRuns", fn := fun _ => fun
  | [d1, d2, d3] => { results := [.lit (.bool true)], args := [d1, d2, d3] }
  | _ => none }
def timerRunsRow : OpenClaim := { program := "ytmchbkmenokkdaa", sum := "9b6dabf333e98b465dc2c0f8cb40b1d5366cd324d418c8b28bf4ab2f0a2e61ac", func := "fingerpost/fingerpostlaw13.TimerRuns", spec := "timerRuns", apart := false }
def TimerRunsSaid : Prop := timerRunsRow.holds Try.pinned (OpenSpec.ofChange timerRunsSpec)

/-- ITS FALSE NEIGHBOUR: 'it returns false'. Refute it at one input. -/
def timerRunsWrong : ChangeSpec := { name := "timerRuns", fn := fun _ => fun
  | [d1, d2, d3] => { results := [.lit (.bool false)], args := [d1, d2, d3] }
  | _ => none }
def TimerRunsWrongFalsely : Prop := timerRunsRow.holds Try.pinned (OpenSpec.ofChange timerRunsWrong)

/-- 'fingerpostlaw17.ResendEnds': WHATEVER THE INPUT: true; the input reads as it did. -/
def resendEndsSpec : ChangeSpec := { name := "resendEnds", fn := fun _ => fun
  | [d] => { results := [.lit (.bool true)], args := [d] }
  | _ => none }
def resendEndsRow : OpenClaim := { program := "ytmchbkmenokkdaa", sum := "9b6dabf333e98b465dc2c0f8cb40b1d5366cd324d418c8b28bf4ab2f0a2e61ac", func := "fingerpost/fingerpostlaw17.ResendEnds", spec := "resendEnds", apart := false }
def ResendEndsSaid : Prop := resendEndsRow.holds Try.pinned (OpenSpec.ofChange resendEndsSpec)

/-- ITS FALSE NEIGHBOUR: 'it returns false'. Refute it at one input. -/
def resendEndsWrong : ChangeSpec := { name := "resendEnds", fn := fun _ => fun
  | [d] => { results := [.lit (.bool false)], args := [d] }
  | _ => none }
def ResendEndsWrongFalsely : Prop := resendEndsRow.holds Try.pinned (OpenSpec.ofChange resendEndsWrong)

/-- 'fingerpostlaw20.ShakeSafe': WHATEVER THE INPUT: true; the input reads as it did. -/
def shakeSafeSpec : ChangeSpec := { name := "shakeSafe", fn := fun _ => fun
  | [d1, d2] => { results := [.lit (.bool true)], args := [d1, d2] }
  | _ => none }
def shakeSafeRow : OpenClaim := { program := "ytmchbkmenokkdaa", sum := "9b6dabf333e98b465dc2c0f8cb40b1d5366cd324d418c8b28bf4ab2f0a2e61ac", func := "fingerpost/fingerpostlaw20.ShakeSafe", spec := "shakeSafe", unfollowed := true, recurses := true, apart := false }
def ShakeSafeSaid : Prop := shakeSafeRow.holds Try.pinned (OpenSpec.ofChange shakeSafeSpec)

/-- ITS FALSE NEIGHBOUR: 'it returns false'. Refute it at one input. -/
def shakeSafeWrong : ChangeSpec := { name := "shakeSafe", fn := fun _ => fun
  | [d1, d2] => { results := [.lit (.bool false)], args := [d1, d2] }
  | _ => none }
def ShakeSafeWrongFalsely : Prop := shakeSafeRow.holds Try.pinned (OpenSpec.ofChange shakeSafeWrong)

/-- 'fingerpostlaw20.ShakeMeets': WHATEVER THE INPUT: true; the input reads as it did. -/
def shakeMeetsSpec : ChangeSpec := { name := "shakeMeets", fn := fun _ => fun
  | [d1, d2] => { results := [.lit (.bool true)], args := [d1, d2] }
  | _ => none }
def shakeMeetsRow : OpenClaim := { program := "ytmchbkmenokkdaa", sum := "9b6dabf333e98b465dc2c0f8cb40b1d5366cd324d418c8b28bf4ab2f0a2e61ac", func := "fingerpost/fingerpostlaw20.ShakeMeets", spec := "shakeMeets", unfollowed := true, recurses := true, apart := false }
def ShakeMeetsSaid : Prop := shakeMeetsRow.holds Try.pinned (OpenSpec.ofChange shakeMeetsSpec)

/-- ITS FALSE NEIGHBOUR: 'it returns false'. Refute it at one input. -/
def shakeMeetsWrong : ChangeSpec := { name := "shakeMeets", fn := fun _ => fun
  | [d1, d2] => { results := [.lit (.bool false)], args := [d1, d2] }
  | _ => none }
def ShakeMeetsWrongFalsely : Prop := shakeMeetsRow.holds Try.pinned (OpenSpec.ofChange shakeMeetsWrong)

/-- 'fingerpostlaw40.AirPlays': WHATEVER THE INPUT: true; the input reads as it did. -/
def airPlaysSpec : ChangeSpec := { name := "airPlays", fn := fun _ => fun
  | [d1, d2] => { results := [.lit (.bool true)], args := [d1, d2] }
  | _ => none }
def airPlaysRow : OpenClaim := { program := "ytmchbkmenokkdaa", sum := "9b6dabf333e98b465dc2c0f8cb40b1d5366cd324d418c8b28bf4ab2f0a2e61ac", func := "fingerpost/fingerpostlaw40.AirPlays", spec := "airPlays", apart := false }
def AirPlaysSaid : Prop := airPlaysRow.holds Try.pinned (OpenSpec.ofChange airPlaysSpec)

/-- ITS FALSE NEIGHBOUR: 'it returns false'. Refute it at one input. -/
def airPlaysWrong : ChangeSpec := { name := "airPlays", fn := fun _ => fun
  | [d1, d2] => { results := [.lit (.bool false)], args := [d1, d2] }
  | _ => none }
def AirPlaysWrongFalsely : Prop := airPlaysRow.holds Try.pinned (OpenSpec.ofChange airPlaysWrong)

/-- 'fingerpostlaw40.AirKeeps': WHATEVER THE INPUT: true; the input reads as it did. -/
def airKeepsSpec : ChangeSpec := { name := "airKeeps", fn := fun _ => fun
  | [d] => { results := [.lit (.bool true)], args := [d] }
  | _ => none }
def airKeepsRow : OpenClaim := { program := "ytmchbkmenokkdaa", sum := "9b6dabf333e98b465dc2c0f8cb40b1d5366cd324d418c8b28bf4ab2f0a2e61ac", func := "fingerpost/fingerpostlaw40.AirKeeps", spec := "airKeeps", apart := false }
def AirKeepsSaid : Prop := airKeepsRow.holds Try.pinned (OpenSpec.ofChange airKeepsSpec)

/-- ITS FALSE NEIGHBOUR: 'it returns false'. Refute it at one input. -/
def airKeepsWrong : ChangeSpec := { name := "airKeeps", fn := fun _ => fun
  | [d] => { results := [.lit (.bool false)], args := [d] }
  | _ => none }
def AirKeepsWrongFalsely : Prop := airKeepsRow.holds Try.pinned (OpenSpec.ofChange airKeepsWrong)

/-- 'fingerpostlaw40.AirMixes': WHATEVER THE INPUT: true; the input reads as it did. -/
def airMixesSpec : ChangeSpec := { name := "airMixes", fn := fun _ => fun
  | [d1, d2, d3] => { results := [.lit (.bool true)], args := [d1, d2, d3] }
  | _ => none }
def airMixesRow : OpenClaim := { program := "ytmchbkmenokkdaa", sum := "9b6dabf333e98b465dc2c0f8cb40b1d5366cd324d418c8b28bf4ab2f0a2e61ac", func := "fingerpost/fingerpostlaw40.AirMixes", spec := "airMixes", apart := false }
def AirMixesSaid : Prop := airMixesRow.holds Try.pinned (OpenSpec.ofChange airMixesSpec)

/-- ITS FALSE NEIGHBOUR: 'it returns false'. Refute it at one input. -/
def airMixesWrong : ChangeSpec := { name := "airMixes", fn := fun _ => fun
  | [d1, d2, d3] => { results := [.lit (.bool false)], args := [d1, d2, d3] }
  | _ => none }
def AirMixesWrongFalsely : Prop := airMixesRow.holds Try.pinned (OpenSpec.ofChange airMixesWrong)

/-- 'fingerpostlaw16.WindowTurns': WHATEVER THE INPUT: true; the input reads as it did. -/
def windowTurnsSpec : ChangeSpec := { name := "windowTurns", fn := fun _ => fun
  | [d] => { results := [.lit (.bool true)], args := [d] }
  | _ => none }
def windowTurnsRow : OpenClaim := { program := "ytmchbkmenokkdaa", sum := "9b6dabf333e98b465dc2c0f8cb40b1d5366cd324d418c8b28bf4ab2f0a2e61ac", func := "fingerpost/fingerpostlaw16.WindowTurns", spec := "windowTurns", inPlace := ["internal/abi.NoEscape"], unfollowed := true, recurses := true, apart := false }
def WindowTurnsSaid : Prop := windowTurnsRow.holds Try.pinned (OpenSpec.ofChange windowTurnsSpec)

/-- ITS FALSE NEIGHBOUR: 'it returns false'. Refute it at one input. -/
def windowTurnsWrong : ChangeSpec := { name := "windowTurns", fn := fun _ => fun
  | [d] => { results := [.lit (.bool false)], args := [d] }
  | _ => none }
def WindowTurnsWrongFalsely : Prop := windowTurnsRow.holds Try.pinned (OpenSpec.ofChange windowTurnsWrong)

/-- 'fingerpostlaw16.WindowGaps': WHATEVER THE INPUT: true; the input reads as it did. -/
def windowGapsSpec : ChangeSpec := { name := "windowGaps", fn := fun _ => fun
  | [d1, d2] => { results := [.lit (.bool true)], args := [d1, d2] }
  | _ => none }
def windowGapsRow : OpenClaim := { program := "ytmchbkmenokkdaa", sum := "9b6dabf333e98b465dc2c0f8cb40b1d5366cd324d418c8b28bf4ab2f0a2e61ac", func := "fingerpost/fingerpostlaw16.WindowGaps", spec := "windowGaps", inPlace := ["internal/abi.NoEscape"], unfollowed := true, recurses := true, apart := false }
def WindowGapsSaid : Prop := windowGapsRow.holds Try.pinned (OpenSpec.ofChange windowGapsSpec)

/-- ITS FALSE NEIGHBOUR: 'it returns false'. Refute it at one input. -/
def windowGapsWrong : ChangeSpec := { name := "windowGaps", fn := fun _ => fun
  | [d1, d2] => { results := [.lit (.bool false)], args := [d1, d2] }
  | _ => none }
def WindowGapsWrongFalsely : Prop := windowGapsRow.holds Try.pinned (OpenSpec.ofChange windowGapsWrong)

/- THE SECOND FORM. 'bulk': how many values and letters a reading holds, each counted each time it is reached (what is shared counts as often as it is met; a slice's spare places count too). A statement '..UptoSaid' is the law's where the arguments, and the package variables that the reading takes, are together of bulk at most 1048576: NARROWER than '..Said'. Prove '..Said' where nothing that the law and all that it calls make is longer than what came in: it says more and counts as full. Else prove '..UptoSaid'. A law counts once. -/
mutual
def uptoBulk {H : Type} : DataW H → Nat
  | .lit (.string bytes) => bytes.length + 1
  | .lit _ => 1
  | .nil => 1
  | .ptr d => uptoBulk d + 1
  | .slice elems spare => uptoBulkAll elems + uptoBulkAll spare + 1
  | .agg parts => uptoBulkAll parts + 1
  | .iface _ d => uptoBulk d + 1
  | .map entries => uptoBulkEntries entries + 1
  | .held _ => 1
def uptoBulkAll {H : Type} : List (DataW H) → Nat
  | [] => 0
  | d :: r => uptoBulk d + uptoBulkAll r
def uptoBulkEntries {H : Type} : List (Lit × DataW H) → Nat
  | [] => 0
  | x :: r => uptoBulkEntry x + uptoBulkEntries r
def uptoBulkEntry {H : Type} : Lit × DataW H → Nat
  | (.string bytes, d) => bytes.length + uptoBulk d + 1
  | (_, d) => uptoBulk d + 1
 end
def uptoSmall : (H : Type) → List (DataW H) → Bool := fun _ ds => decide (uptoBulkAll ds ≤ 1048576)
def OpenSpec.upto (s : _root_.Go.ChangeSpec) : _root_.Go.OpenSpec := { _root_.Go.OpenSpec.ofChange s with cond := some uptoSmall }

/-- 'fingerpostlaw12.RingFirst', WHERE WHAT IT READS IS OF BULK AT MOST 1048576: true; the input reads as it did. -/
def ringFirstUptoRow : OpenClaim := { program := "ytmchbkmenokkdaa", sum := "9b6dabf333e98b465dc2c0f8cb40b1d5366cd324d418c8b28bf4ab2f0a2e61ac", func := "fingerpost/fingerpostlaw12.RingFirst", spec := "ringFirst", apart := false, narrowed := true }
def RingFirstUptoSaid : Prop := ringFirstUptoRow.holds Try.pinned (OpenSpec.upto ringFirstSpec)

/-- 'fingerpostlaw12.RingMoves', WHERE WHAT IT READS IS OF BULK AT MOST 1048576: true; the input reads as it did. -/
def ringMovesUptoRow : OpenClaim := { program := "ytmchbkmenokkdaa", sum := "9b6dabf333e98b465dc2c0f8cb40b1d5366cd324d418c8b28bf4ab2f0a2e61ac", func := "fingerpost/fingerpostlaw12.RingMoves", spec := "ringMoves", apart := false, narrowed := true }
def RingMovesUptoSaid : Prop := ringMovesUptoRow.holds Try.pinned (OpenSpec.upto ringMovesSpec)

/-- 'fingerpostlaw13.TimerOnce', WHERE WHAT IT READS IS OF BULK AT MOST 1048576: true; the input reads as it did. -/
def timerOnceUptoRow : OpenClaim := { program := "ytmchbkmenokkdaa", sum := "9b6dabf333e98b465dc2c0f8cb40b1d5366cd324d418c8b28bf4ab2f0a2e61ac", func := "fingerpost/fingerpostlaw13.TimerOnce", spec := "timerOnce", apart := false, narrowed := true }
def TimerOnceUptoSaid : Prop := timerOnceUptoRow.holds Try.pinned (OpenSpec.upto timerOnceSpec)

/-- 'fingerpostlaw13.TimerRuns', WHERE WHAT IT READS IS OF BULK AT MOST 1048576: true; the input reads as it did. -/
def timerRunsUptoRow : OpenClaim := { program := "ytmchbkmenokkdaa", sum := "9b6dabf333e98b465dc2c0f8cb40b1d5366cd324d418c8b28bf4ab2f0a2e61ac", func := "fingerpost/fingerpostlaw13.TimerRuns", spec := "timerRuns", apart := false, narrowed := true }
def TimerRunsUptoSaid : Prop := timerRunsUptoRow.holds Try.pinned (OpenSpec.upto timerRunsSpec)

/-- 'fingerpostlaw17.ResendEnds', WHERE WHAT IT READS IS OF BULK AT MOST 1048576: true; the input reads as it did. -/
def resendEndsUptoRow : OpenClaim := { program := "ytmchbkmenokkdaa", sum := "9b6dabf333e98b465dc2c0f8cb40b1d5366cd324d418c8b28bf4ab2f0a2e61ac", func := "fingerpost/fingerpostlaw17.ResendEnds", spec := "resendEnds", apart := false, narrowed := true }
def ResendEndsUptoSaid : Prop := resendEndsUptoRow.holds Try.pinned (OpenSpec.upto resendEndsSpec)

/-- 'fingerpostlaw20.ShakeSafe', WHERE WHAT IT READS IS OF BULK AT MOST 1048576: true; the input reads as it did. -/
def shakeSafeUptoRow : OpenClaim := { program := "ytmchbkmenokkdaa", sum := "9b6dabf333e98b465dc2c0f8cb40b1d5366cd324d418c8b28bf4ab2f0a2e61ac", func := "fingerpost/fingerpostlaw20.ShakeSafe", spec := "shakeSafe", unfollowed := true, recurses := true, apart := false, narrowed := true }
def ShakeSafeUptoSaid : Prop := shakeSafeUptoRow.holds Try.pinned (OpenSpec.upto shakeSafeSpec)

/-- 'fingerpostlaw20.ShakeMeets', WHERE WHAT IT READS IS OF BULK AT MOST 1048576: true; the input reads as it did. -/
def shakeMeetsUptoRow : OpenClaim := { program := "ytmchbkmenokkdaa", sum := "9b6dabf333e98b465dc2c0f8cb40b1d5366cd324d418c8b28bf4ab2f0a2e61ac", func := "fingerpost/fingerpostlaw20.ShakeMeets", spec := "shakeMeets", unfollowed := true, recurses := true, apart := false, narrowed := true }
def ShakeMeetsUptoSaid : Prop := shakeMeetsUptoRow.holds Try.pinned (OpenSpec.upto shakeMeetsSpec)

/-- 'fingerpostlaw40.AirPlays', WHERE WHAT IT READS IS OF BULK AT MOST 1048576: true; the input reads as it did. -/
def airPlaysUptoRow : OpenClaim := { program := "ytmchbkmenokkdaa", sum := "9b6dabf333e98b465dc2c0f8cb40b1d5366cd324d418c8b28bf4ab2f0a2e61ac", func := "fingerpost/fingerpostlaw40.AirPlays", spec := "airPlays", apart := false, narrowed := true }
def AirPlaysUptoSaid : Prop := airPlaysUptoRow.holds Try.pinned (OpenSpec.upto airPlaysSpec)

/-- 'fingerpostlaw40.AirKeeps', WHERE WHAT IT READS IS OF BULK AT MOST 1048576: true; the input reads as it did. -/
def airKeepsUptoRow : OpenClaim := { program := "ytmchbkmenokkdaa", sum := "9b6dabf333e98b465dc2c0f8cb40b1d5366cd324d418c8b28bf4ab2f0a2e61ac", func := "fingerpost/fingerpostlaw40.AirKeeps", spec := "airKeeps", apart := false, narrowed := true }
def AirKeepsUptoSaid : Prop := airKeepsUptoRow.holds Try.pinned (OpenSpec.upto airKeepsSpec)

/-- 'fingerpostlaw40.AirMixes', WHERE WHAT IT READS IS OF BULK AT MOST 1048576: true; the input reads as it did. -/
def airMixesUptoRow : OpenClaim := { program := "ytmchbkmenokkdaa", sum := "9b6dabf333e98b465dc2c0f8cb40b1d5366cd324d418c8b28bf4ab2f0a2e61ac", func := "fingerpost/fingerpostlaw40.AirMixes", spec := "airMixes", apart := false, narrowed := true }
def AirMixesUptoSaid : Prop := airMixesUptoRow.holds Try.pinned (OpenSpec.upto airMixesSpec)

/-- 'fingerpostlaw16.WindowTurns', WHERE WHAT IT READS IS OF BULK AT MOST 1048576: true; the input reads as it did. -/
def windowTurnsUptoRow : OpenClaim := { program := "ytmchbkmenokkdaa", sum := "9b6dabf333e98b465dc2c0f8cb40b1d5366cd324d418c8b28bf4ab2f0a2e61ac", func := "fingerpost/fingerpostlaw16.WindowTurns", spec := "windowTurns", inPlace := ["internal/abi.NoEscape"], unfollowed := true, recurses := true, apart := false, narrowed := true }
def WindowTurnsUptoSaid : Prop := windowTurnsUptoRow.holds Try.pinned (OpenSpec.upto windowTurnsSpec)

/-- 'fingerpostlaw16.WindowGaps', WHERE WHAT IT READS IS OF BULK AT MOST 1048576: true; the input reads as it did. -/
def windowGapsUptoRow : OpenClaim := { program := "ytmchbkmenokkdaa", sum := "9b6dabf333e98b465dc2c0f8cb40b1d5366cd324d418c8b28bf4ab2f0a2e61ac", func := "fingerpost/fingerpostlaw16.WindowGaps", spec := "windowGaps", inPlace := ["internal/abi.NoEscape"], unfollowed := true, recurses := true, apart := false, narrowed := true }
def WindowGapsUptoSaid : Prop := windowGapsUptoRow.holds Try.pinned (OpenSpec.upto windowGapsSpec)

end Rows
end Go.Proofs.Ytmchbkmenokkdaa

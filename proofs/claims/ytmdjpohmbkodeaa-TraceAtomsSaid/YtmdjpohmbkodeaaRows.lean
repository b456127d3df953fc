/-
  No cell of these rows narrows 'for every input' (looked for: loops, veiled, ifaces, maps, wideKeys, modest, calm, conditions, laid).
  DERIVED. THE GIVEN ROWS OF THIS SEAT. 8 by the template 'for every input the law returns true; each argument reads behind the call as it read before'; 0 by the template 'total and deterministic' (their statements: YtmdjpohmbkodeaaTotals.lean).
  GIVEN WITH THE SEED: the statements are not yours to turn. If you find one false, say at which input.
  Laid BY PROGRAM, IN A SANDBOX (cutbox-rows.mjs): the forced cells as the released guide's own fill.sh prints them over the translation 7ba6fa3b0aedfdb0… (all of the seat's roots in one cut). By AI agents, Wed Nov 11 2026. No macro, syntax, notation, axiom, sorry.
-/
import Derived.Test.YtmdjpohmbkodeaaChecked
import GoSem.Claim
import GoSem.ClaimJoined
import GoSem.ClaimMapViews
import Derived.JoinedTies
import Derived.KernelRfl
namespace Go.Proofs.Ytmdjpohmbkodeaa
/- THE CELL 'sum', in the pinned program and in every row, IS THE sha256 OF THE DUMP (.gsa) THAT YtmdjpohmbkodeaaProg.lean LOADS. Nothing in Lean hashes anything: it is a label: what it is worth is what the hold of that sum in a sandbox is worth. -/
noncomputable def Try.pinned : Pinned := { name := "ytmdjpohmbkodeaa", sum := "7ba6fa3b0aedfdb06aaa9bdda2741510abed8e4806444fc0bbd8b6bcb586dc24", checked := Try.checked }
namespace Rows
def none {H : Type} : Left H := { results := [], args := [] }

/-- 'picketlaw9.TraceAtoms': WHATEVER THE INPUT: true; the input reads as it did. -/
def traceAtomsSpec : ChangeSpec := { name := "traceAtoms", fn := fun _ => fun
  | [d1, d2, d3] => { results := [.lit (.bool true)], args := [d1, d2, d3] }
  | _ => none }
def traceAtomsRow : OpenClaim := { program := "ytmdjpohmbkodeaa", sum := "7ba6fa3b0aedfdb06aaa9bdda2741510abed8e4806444fc0bbd8b6bcb586dc24", func := "picket/picketlaw9.TraceAtoms", spec := "traceAtoms", inPlace := ["math/bits.Add64"], unfollowed := true, recurses := true, apart := false }
def TraceAtomsSaid : Prop := traceAtomsRow.holds Try.pinned (OpenSpec.ofChange traceAtomsSpec)

/-- ITS FALSE NEIGHBOUR: 'it returns false'. Refute it at one input. -/
def traceAtomsWrong : ChangeSpec := { name := "traceAtoms", fn := fun _ => fun
  | [d1, d2, d3] => { results := [.lit (.bool false)], args := [d1, d2, d3] }
  | _ => none }
def TraceAtomsWrongFalsely : Prop := traceAtomsRow.holds Try.pinned (OpenSpec.ofChange traceAtomsWrong)

/-- 'picketlaw9.TraceNames': WHATEVER THE INPUT: true; the input reads as it did. -/
def traceNamesSpec : ChangeSpec := { name := "traceNames", fn := fun _ => fun
  | [d1, d2, d3, d4] => { results := [.lit (.bool true)], args := [d1, d2, d3, d4] }
  | _ => none }
def traceNamesRow : OpenClaim := { program := "ytmdjpohmbkodeaa", sum := "7ba6fa3b0aedfdb06aaa9bdda2741510abed8e4806444fc0bbd8b6bcb586dc24", func := "picket/picketlaw9.TraceNames", spec := "traceNames", inPlace := ["math/bits.Add64"], unfollowed := true, recurses := true, apart := false }
def TraceNamesSaid : Prop := traceNamesRow.holds Try.pinned (OpenSpec.ofChange traceNamesSpec)

/-- ITS FALSE NEIGHBOUR: 'it returns false'. Refute it at one input. -/
def traceNamesWrong : ChangeSpec := { name := "traceNames", fn := fun _ => fun
  | [d1, d2, d3, d4] => { results := [.lit (.bool false)], args := [d1, d2, d3, d4] }
  | _ => none }
def TraceNamesWrongFalsely : Prop := traceNamesRow.holds Try.pinned (OpenSpec.ofChange traceNamesWrong)

/-- 'picketlaw9.TracePast': WHATEVER THE INPUT: true; the input reads as it did. -/
def tracePastSpec : ChangeSpec := { name := "tracePast", fn := fun _ => fun
  | [d1, d2, d3, d4] => { results := [.lit (.bool true)], args := [d1, d2, d3, d4] }
  | _ => none }
def tracePastRow : OpenClaim := { program := "ytmdjpohmbkodeaa", sum := "7ba6fa3b0aedfdb06aaa9bdda2741510abed8e4806444fc0bbd8b6bcb586dc24", func := "picket/picketlaw9.TracePast", spec := "tracePast", inPlace := ["math/bits.Add64"], unfollowed := true, recurses := true, apart := false }
def TracePastSaid : Prop := tracePastRow.holds Try.pinned (OpenSpec.ofChange tracePastSpec)

/-- ITS FALSE NEIGHBOUR: 'it returns false'. Refute it at one input. -/
def tracePastWrong : ChangeSpec := { name := "tracePast", fn := fun _ => fun
  | [d1, d2, d3, d4] => { results := [.lit (.bool false)], args := [d1, d2, d3, d4] }
  | _ => none }
def TracePastWrongFalsely : Prop := tracePastRow.holds Try.pinned (OpenSpec.ofChange tracePastWrong)

/-- 'picketlaw9.TraceShifts': WHATEVER THE INPUT: true; the input reads as it did. -/
def traceShiftsSpec : ChangeSpec := { name := "traceShifts", fn := fun _ => fun
  | [d1, d2, d3, d4] => { results := [.lit (.bool true)], args := [d1, d2, d3, d4] }
  | _ => none }
def traceShiftsRow : OpenClaim := { program := "ytmdjpohmbkodeaa", sum := "7ba6fa3b0aedfdb06aaa9bdda2741510abed8e4806444fc0bbd8b6bcb586dc24", func := "picket/picketlaw9.TraceShifts", spec := "traceShifts", inPlace := ["math/bits.Add64"], unfollowed := true, recurses := true, apart := false }
def TraceShiftsSaid : Prop := traceShiftsRow.holds Try.pinned (OpenSpec.ofChange traceShiftsSpec)

/-- ITS FALSE NEIGHBOUR: 'it returns false'. Refute it at one input. -/
def traceShiftsWrong : ChangeSpec := { name := "traceShifts", fn := fun _ => fun
  | [d1, d2, d3, d4] => { results := [.lit (.bool false)], args := [d1, d2, d3, d4] }
  | _ => none }
def TraceShiftsWrongFalsely : Prop := traceShiftsRow.holds Try.pinned (OpenSpec.ofChange traceShiftsWrong)

/-- 'picketlaw9.TraceOnce': WHATEVER THE INPUT: true; the input reads as it did. -/
def traceOnceSpec : ChangeSpec := { name := "traceOnce", fn := fun _ => fun
  | [d1, d2, d3, d4, d5] => { results := [.lit (.bool true)], args := [d1, d2, d3, d4, d5] }
  | _ => none }
def traceOnceRow : OpenClaim := { program := "ytmdjpohmbkodeaa", sum := "7ba6fa3b0aedfdb06aaa9bdda2741510abed8e4806444fc0bbd8b6bcb586dc24", func := "picket/picketlaw9.TraceOnce", spec := "traceOnce", inPlace := ["math/bits.Add64"], unfollowed := true, recurses := true, apart := false }
def TraceOnceSaid : Prop := traceOnceRow.holds Try.pinned (OpenSpec.ofChange traceOnceSpec)

/-- ITS FALSE NEIGHBOUR: 'it returns false'. Refute it at one input. -/
def traceOnceWrong : ChangeSpec := { name := "traceOnce", fn := fun _ => fun
  | [d1, d2, d3, d4, d5] => { results := [.lit (.bool false)], args := [d1, d2, d3, d4, d5] }
  | _ => none }
def TraceOnceWrongFalsely : Prop := traceOnceRow.holds Try.pinned (OpenSpec.ofChange traceOnceWrong)

/-- 'picketlaw9.TraceDuals': WHATEVER THE INPUT: true; the input reads as it did. -/
def traceDualsSpec : ChangeSpec := { name := "traceDuals", fn := fun _ => fun
  | [d1, d2, d3, d4, d5, d6] => { results := [.lit (.bool true)], args := [d1, d2, d3, d4, d5, d6] }
  | _ => none }
def traceDualsRow : OpenClaim := { program := "ytmdjpohmbkodeaa", sum := "7ba6fa3b0aedfdb06aaa9bdda2741510abed8e4806444fc0bbd8b6bcb586dc24", func := "picket/picketlaw9.TraceDuals", spec := "traceDuals", inPlace := ["math/bits.Add64"], unfollowed := true, recurses := true, apart := false }
def TraceDualsSaid : Prop := traceDualsRow.holds Try.pinned (OpenSpec.ofChange traceDualsSpec)

/-- ITS FALSE NEIGHBOUR: 'it returns false'. Refute it at one input. -/
def traceDualsWrong : ChangeSpec := { name := "traceDuals", fn := fun _ => fun
  | [d1, d2, d3, d4, d5, d6] => { results := [.lit (.bool false)], args := [d1, d2, d3, d4, d5, d6] }
  | _ => none }
def TraceDualsWrongFalsely : Prop := traceDualsRow.holds Try.pinned (OpenSpec.ofChange traceDualsWrong)

/-- 'picketlaw9.TraceSteps': WHATEVER THE INPUT: true; the input reads as it did. -/
def traceStepsSpec : ChangeSpec := { name := "traceSteps", fn := fun _ => fun
  | [d1, d2, d3, d4] => { results := [.lit (.bool true)], args := [d1, d2, d3, d4] }
  | _ => none }
def traceStepsRow : OpenClaim := { program := "ytmdjpohmbkodeaa", sum := "7ba6fa3b0aedfdb06aaa9bdda2741510abed8e4806444fc0bbd8b6bcb586dc24", func := "picket/picketlaw9.TraceSteps", spec := "traceSteps", inPlace := ["math/bits.Add64"], unfollowed := true, recurses := true, apart := false }
def TraceStepsSaid : Prop := traceStepsRow.holds Try.pinned (OpenSpec.ofChange traceStepsSpec)

/-- ITS FALSE NEIGHBOUR: 'it returns false'. Refute it at one input. -/
def traceStepsWrong : ChangeSpec := { name := "traceSteps", fn := fun _ => fun
  | [d1, d2, d3, d4] => { results := [.lit (.bool false)], args := [d1, d2, d3, d4] }
  | _ => none }
def TraceStepsWrongFalsely : Prop := traceStepsRow.holds Try.pinned (OpenSpec.ofChange traceStepsWrong)

/-- 'picketlaw9.TraceCores': WHATEVER THE INPUT: true; the input reads as it did. -/
def traceCoresSpec : ChangeSpec := { name := "traceCores", fn := fun _ => fun
  | [d1, d2, d3] => { results := [.lit (.bool true)], args := [d1, d2, d3] }
  | _ => none }
def traceCoresRow : OpenClaim := { program := "ytmdjpohmbkodeaa", sum := "7ba6fa3b0aedfdb06aaa9bdda2741510abed8e4806444fc0bbd8b6bcb586dc24", func := "picket/picketlaw9.TraceCores", spec := "traceCores", inPlace := ["math/bits.Add64"], unfollowed := true, recurses := true, apart := false }
def TraceCoresSaid : Prop := traceCoresRow.holds Try.pinned (OpenSpec.ofChange traceCoresSpec)

/-- ITS FALSE NEIGHBOUR: 'it returns false'. Refute it at one input. -/
def traceCoresWrong : ChangeSpec := { name := "traceCores", fn := fun _ => fun
  | [d1, d2, d3] => { results := [.lit (.bool false)], args := [d1, d2, d3] }
  | _ => none }
def TraceCoresWrongFalsely : Prop := traceCoresRow.holds Try.pinned (OpenSpec.ofChange traceCoresWrong)

/- THE SECOND FORM. 'bulk': how many values and letters a reading holds, each counted each time it is reached (what is shared counts as often as it is met; a slice's spare places count too). A statement '..UptoSaid' is the law's where the arguments, and the package variables that the reading takes, are together of bulk at most 1048576: NARROWER than '..Said'. Prove '..Said' where nothing that the law and all that it calls make is longer than what came in: it says more and counts as full. Else prove '..UptoSaid'. A law counts once. -/
mutual
def uptoBulk {H : Type} : DataW H → Nat
  | .lit (.string bytes) => bytes.length + 1
  | .lit _ => 1
  | .nil => 1
  | .ptr d => uptoBulk d + 1
  | .slice elems spare => uptoBulkAll elems + uptoBulkAll spare + 1
  | .agg parts => uptoBulkAll parts + 1
  | .iface _ d => uptoBulk d + 1
  | .map entries => uptoBulkEntries entries + 1
  | .held _ => 1
def uptoBulkAll {H : Type} : List (DataW H) → Nat
  | [] => 0
  | d :: r => uptoBulk d + uptoBulkAll r
def uptoBulkEntries {H : Type} : List (Lit × DataW H) → Nat
  | [] => 0
  | x :: r => uptoBulkEntry x + uptoBulkEntries r
def uptoBulkEntry {H : Type} : Lit × DataW H → Nat
  | (.string bytes, d) => bytes.length + uptoBulk d + 1
  | (_, d) => uptoBulk d + 1
 end
def uptoSmall : (H : Type) → List (DataW H) → Bool := fun _ ds => decide (uptoBulkAll ds ≤ 1048576)
def OpenSpec.upto (s : _root_.Go.ChangeSpec) : _root_.Go.OpenSpec := { _root_.Go.OpenSpec.ofChange s with cond := some uptoSmall }

/-- 'picketlaw9.TraceAtoms', WHERE WHAT IT READS IS OF BULK AT MOST 1048576: true; the input reads as it did. -/
def traceAtomsUptoRow : OpenClaim := { program := "ytmdjpohmbkodeaa", sum := "7ba6fa3b0aedfdb06aaa9bdda2741510abed8e4806444fc0bbd8b6bcb586dc24", func := "picket/picketlaw9.TraceAtoms", spec := "traceAtoms", inPlace := ["math/bits.Add64"], unfollowed := true, recurses := true, apart := false, narrowed := true }
def TraceAtomsUptoSaid : Prop := traceAtomsUptoRow.holds Try.pinned (OpenSpec.upto traceAtomsSpec)

/-- 'picketlaw9.TraceNames', WHERE WHAT IT READS IS OF BULK AT MOST 1048576: true; the input reads as it did. -/
def traceNamesUptoRow : OpenClaim := { program := "ytmdjpohmbkodeaa", sum := "7ba6fa3b0aedfdb06aaa9bdda2741510abed8e4806444fc0bbd8b6bcb586dc24", func := "picket/picketlaw9.TraceNames", spec := "traceNames", inPlace := ["math/bits.Add64"], unfollowed := true, recurses := true, apart := false, narrowed := true }
def TraceNamesUptoSaid : Prop := traceNamesUptoRow.holds Try.pinned (OpenSpec.upto traceNamesSpec)

/-- 'picketlaw9.TracePast', WHERE WHAT IT READS IS OF BULK AT MOST 1048576: true; the input reads as it did. -/
def tracePastUptoRow : OpenClaim := { program := "ytmdjpohmbkodeaa", sum := "7ba6fa3b0aedfdb06aaa9bdda2741510abed8e4806444fc0bbd8b6bcb586dc24", func := "picket/picketlaw9.TracePast", spec := "tracePast", inPlace := ["math/bits.Add64"], unfollowed := true, recurses := true, apart := false, narrowed := true }
def TracePastUptoSaid : Prop := tracePastUptoRow.holds Try.pinned (OpenSpec.upto tracePastSpec)

/-- 'picketlaw9.TraceShifts', WHERE WHAT IT READS IS OF BULK AT MOST 1048576: true; the input reads as it did. -/
def traceShiftsUptoRow : OpenClaim := { program := "ytmdjpohmbkodeaa", sum := "7ba6fa3b0aedfdb06aaa9bdda2741510abed8e4806444fc0bbd8b6bcb586dc24", func := "picket/picketlaw9.TraceShifts", spec := "traceShifts", inPlace := ["math/bits.Add64"], unfollowed := true, recurses := true, apart := false, narrowed := true }
def TraceShiftsUptoSaid : Prop := traceShiftsUptoRow.holds Try.pinned (OpenSpec.upto traceShiftsSpec)

/-- 'picketlaw9.TraceOnce', WHERE WHAT IT READS IS OF BULK AT MOST 1048576: true; the input reads as it did. -/
def traceOnceUptoRow : OpenClaim := { program := "ytmdjpohmbkodeaa", sum := "7ba6fa3b0aedfdb06aaa9bdda2741510abed8e4806444fc0bbd8b6bcb586dc24", func := "picket/picketlaw9.TraceOnce", spec := "traceOnce", inPlace := ["math/bits.Add64"], unfollowed := true, recurses := true, apart := false, narrowed := true }
def TraceOnceUptoSaid : Prop := traceOnceUptoRow.holds Try.pinned (OpenSpec.upto traceOnceSpec)

/-- 'picketlaw9.TraceDuals', WHERE WHAT IT READS IS OF BULK AT MOST 1048576: true; the input reads as it did. -/
def traceDualsUptoRow : OpenClaim := { program := "ytmdjpohmbkodeaa", sum := "7ba6fa3b0aedfdb06aaa9bdda2741510abed8e4806444fc0bbd8b6bcb586dc24", func := "picket/picketlaw9.TraceDuals", spec := "traceDuals", inPlace := ["math/bits.Add64"], unfollowed := true, recurses := true, apart := false, narrowed := true }
def TraceDualsUptoSaid : Prop := traceDualsUptoRow.holds Try.pinned (OpenSpec.upto traceDualsSpec)

/-- 'picketlaw9.TraceSteps', WHERE WHAT IT READS IS OF BULK AT MOST 1048576: true; the input reads as it did. -/
def traceStepsUptoRow : OpenClaim := { program := "ytmdjpohmbkodeaa", sum := "7ba6fa3b0aedfdb06aaa9bdda2741510abed8e4806444fc0bbd8b6bcb586dc24", func := "picket/picketlaw9.TraceSteps", spec := "traceSteps", inPlace := ["math/bits.Add64"], unfollowed := true, recurses := true, apart := false, narrowed := true }
def TraceStepsUptoSaid : Prop := traceStepsUptoRow.holds Try.pinned (OpenSpec.upto traceStepsSpec)

/-- 'picketlaw9.TraceCores', WHERE WHAT IT READS IS OF BULK AT MOST 1048576: true; the input reads as it did. -/
def traceCoresUptoRow : OpenClaim := { program := "ytmdjpohmbkodeaa", sum := "7ba6fa3b0aedfdb06aaa9bdda2741510abed8e4806444fc0bbd8b6bcb586dc24", func := "picket/picketlaw9.TraceCores", spec := "traceCores", inPlace := ["math/bits.Add64"], unfollowed := true, recurses := true, apart := false, narrowed := true }
def TraceCoresUptoSaid : Prop := traceCoresUptoRow.holds Try.pinned (OpenSpec.upto traceCoresSpec)

end Rows
end Go.Proofs.Ytmdjpohmbkodeaa

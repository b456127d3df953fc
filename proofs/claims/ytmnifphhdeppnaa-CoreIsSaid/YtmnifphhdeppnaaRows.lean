/-
  No cell of these rows narrows 'for every input' (looked for: loops, veiled, ifaces, maps, wideKeys, modest, calm, conditions, laid).
  DERIVED. THE GIVEN ROWS OF THIS SEAT. 4 by the template 'for every input the law returns true; each argument reads behind the call as it read before'; 0 by the template 'total and deterministic' (their statements: YtmnifphhdeppnaaTotals.lean).
  GIVEN WITH THE SEED: the statements are not yours to turn. If you find one false, say at which input.
  Laid BY PROGRAM, IN A SANDBOX (cutbox-rows.mjs): the forced cells as the released guide's own fill.sh prints them over the translation bb4cec2f21bb942d… (all of the seat's roots in one cut). By AI agents, Wed Nov 11 2026. No macro, syntax, notation, axiom, sorry.
-/
import Derived.Test.YtmnifphhdeppnaaChecked
import GoSem.Claim
import GoSem.ClaimJoined
import GoSem.ClaimMapViews
import Derived.JoinedTies
import Derived.KernelRfl
namespace Go.Proofs.Ytmnifphhdeppnaa
/- THE CELL 'sum', in the pinned program and in every row, IS THE sha256 OF THE DUMP (.gsa) THAT YtmnifphhdeppnaaProg.lean LOADS. Nothing in Lean hashes anything: it is a label: what it is worth is what the hold of that sum in a sandbox is worth. -/
noncomputable def Try.pinned : Pinned := { name := "ytmnifphhdeppnaa", sum := "bb4cec2f21bb942d5e2ce617f6f8e0ca152813f4e15177dc4cf9883dc9fbb7b5", checked := Try.checked }
namespace Rows
def none {H : Type} : Left H := { results := [], args := [] }

/-- 'picketlaw8.CoreAnds': WHATEVER THE INPUT: true; the input reads as it did. -/
def coreAndsSpec : ChangeSpec := { name := "coreAnds", fn := fun _ => fun
  | [d1, d2] => { results := [.lit (.bool true)], args := [d1, d2] }
  | _ => none }
def coreAndsRow : OpenClaim := { program := "ytmnifphhdeppnaa", sum := "bb4cec2f21bb942d5e2ce617f6f8e0ca152813f4e15177dc4cf9883dc9fbb7b5", func := "picket/picketlaw8.CoreAnds", spec := "coreAnds", unfollowed := true, recurses := true, apart := false }
def CoreAndsSaid : Prop := coreAndsRow.holds Try.pinned (OpenSpec.ofChange coreAndsSpec)

/-- ITS FALSE NEIGHBOUR: 'it returns false'. Refute it at one input. -/
def coreAndsWrong : ChangeSpec := { name := "coreAnds", fn := fun _ => fun
  | [d1, d2] => { results := [.lit (.bool false)], args := [d1, d2] }
  | _ => none }
def CoreAndsWrongFalsely : Prop := coreAndsRow.holds Try.pinned (OpenSpec.ofChange coreAndsWrong)

/-- 'picketlaw8.CoreTimes': WHATEVER THE INPUT: true; the input reads as it did. -/
def coreTimesSpec : ChangeSpec := { name := "coreTimes", fn := fun _ => fun
  | [d1, d2, d3, d4] => { results := [.lit (.bool true)], args := [d1, d2, d3, d4] }
  | _ => none }
def coreTimesRow : OpenClaim := { program := "ytmnifphhdeppnaa", sum := "bb4cec2f21bb942d5e2ce617f6f8e0ca152813f4e15177dc4cf9883dc9fbb7b5", func := "picket/picketlaw8.CoreTimes", spec := "coreTimes", unfollowed := true, recurses := true, apart := false }
def CoreTimesSaid : Prop := coreTimesRow.holds Try.pinned (OpenSpec.ofChange coreTimesSpec)

/-- ITS FALSE NEIGHBOUR: 'it returns false'. Refute it at one input. -/
def coreTimesWrong : ChangeSpec := { name := "coreTimes", fn := fun _ => fun
  | [d1, d2, d3, d4] => { results := [.lit (.bool false)], args := [d1, d2, d3, d4] }
  | _ => none }
def CoreTimesWrongFalsely : Prop := coreTimesRow.holds Try.pinned (OpenSpec.ofChange coreTimesWrong)

/-- 'picketlaw8.CoreIs': WHATEVER THE INPUT: true; the input reads as it did. -/
def coreIsSpec : ChangeSpec := { name := "coreIs", fn := fun _ => fun
  | [d] => { results := [.lit (.bool true)], args := [d] }
  | _ => none }
def coreIsRow : OpenClaim := { program := "ytmnifphhdeppnaa", sum := "bb4cec2f21bb942d5e2ce617f6f8e0ca152813f4e15177dc4cf9883dc9fbb7b5", func := "picket/picketlaw8.CoreIs", spec := "coreIs", unfollowed := true, recurses := true, apart := false }
def CoreIsSaid : Prop := coreIsRow.holds Try.pinned (OpenSpec.ofChange coreIsSpec)

/-- ITS FALSE NEIGHBOUR: 'it returns false'. Refute it at one input. -/
def coreIsWrong : ChangeSpec := { name := "coreIs", fn := fun _ => fun
  | [d] => { results := [.lit (.bool false)], args := [d] }
  | _ => none }
def CoreIsWrongFalsely : Prop := coreIsRow.holds Try.pinned (OpenSpec.ofChange coreIsWrong)

/-- 'picketlaw8.CoreTwice': WHATEVER THE INPUT: true; the input reads as it did. -/
def coreTwiceSpec : ChangeSpec := { name := "coreTwice", fn := fun _ => fun
  | [d1, d2] => { results := [.lit (.bool true)], args := [d1, d2] }
  | _ => none }
def coreTwiceRow : OpenClaim := { program := "ytmnifphhdeppnaa", sum := "bb4cec2f21bb942d5e2ce617f6f8e0ca152813f4e15177dc4cf9883dc9fbb7b5", func := "picket/picketlaw8.CoreTwice", spec := "coreTwice", unfollowed := true, recurses := true, apart := false }
def CoreTwiceSaid : Prop := coreTwiceRow.holds Try.pinned (OpenSpec.ofChange coreTwiceSpec)

/-- ITS FALSE NEIGHBOUR: 'it returns false'. Refute it at one input. -/
def coreTwiceWrong : ChangeSpec := { name := "coreTwice", fn := fun _ => fun
  | [d1, d2] => { results := [.lit (.bool false)], args := [d1, d2] }
  | _ => none }
def CoreTwiceWrongFalsely : Prop := coreTwiceRow.holds Try.pinned (OpenSpec.ofChange coreTwiceWrong)

/- THE SECOND FORM. 'bulk': how many values and letters a reading holds, each counted each time it is reached (what is shared counts as often as it is met; a slice's spare places count too). A statement '..UptoSaid' is the law's where the arguments, and the package variables that the reading takes, are together of bulk at most 1048576: NARROWER than '..Said'. Prove '..Said' where nothing that the law and all that it calls make is longer than what came in: it says more and counts as full. Else prove '..UptoSaid'. A law counts once. -/
mutual
def uptoBulk {H : Type} : DataW H → Nat
  | .lit (.string bytes) => bytes.length + 1
  | .lit _ => 1
  | .nil => 1
  | .ptr d => uptoBulk d + 1
  | .slice elems spare => uptoBulkAll elems + uptoBulkAll spare + 1
  | .agg parts => uptoBulkAll parts + 1
  | .iface _ d => uptoBulk d + 1
  | .map entries => uptoBulkEntries entries + 1
  | .held _ => 1
def uptoBulkAll {H : Type} : List (DataW H) → Nat
  | [] => 0
  | d :: r => uptoBulk d + uptoBulkAll r
def uptoBulkEntries {H : Type} : List (Lit × DataW H) → Nat
  | [] => 0
  | x :: r => uptoBulkEntry x + uptoBulkEntries r
def uptoBulkEntry {H : Type} : Lit × DataW H → Nat
  | (.string bytes, d) => bytes.length + uptoBulk d + 1
  | (_, d) => uptoBulk d + 1
 end
def uptoSmall : (H : Type) → List (DataW H) → Bool := fun _ ds => decide (uptoBulkAll ds ≤ 1048576)
def OpenSpec.upto (s : _root_.Go.ChangeSpec) : _root_.Go.OpenSpec := { _root_.Go.OpenSpec.ofChange s with cond := some uptoSmall }

/-- 'picketlaw8.CoreAnds', WHERE WHAT IT READS IS OF BULK AT MOST 1048576: true; the input reads as it did. -/
def coreAndsUptoRow : OpenClaim := { program := "ytmnifphhdeppnaa", sum := "bb4cec2f21bb942d5e2ce617f6f8e0ca152813f4e15177dc4cf9883dc9fbb7b5", func := "picket/picketlaw8.CoreAnds", spec := "coreAnds", unfollowed := true, recurses := true, apart := false, narrowed := true }
def CoreAndsUptoSaid : Prop := coreAndsUptoRow.holds Try.pinned (OpenSpec.upto coreAndsSpec)

/-- 'picketlaw8.CoreTimes', WHERE WHAT IT READS IS OF BULK AT MOST 1048576: true; the input reads as it did. -/
def coreTimesUptoRow : OpenClaim := { program := "ytmnifphhdeppnaa", sum := "bb4cec2f21bb942d5e2ce617f6f8e0ca152813f4e15177dc4cf9883dc9fbb7b5", func := "picket/picketlaw8.CoreTimes", spec := "coreTimes", unfollowed := true, recurses := true, apart := false, narrowed := true }
def CoreTimesUptoSaid : Prop := coreTimesUptoRow.holds Try.pinned (OpenSpec.upto coreTimesSpec)

/-- 'picketlaw8.CoreIs', WHERE WHAT IT READS IS OF BULK AT MOST 1048576: true; the input reads as it did. -/
def coreIsUptoRow : OpenClaim := { program := "ytmnifphhdeppnaa", sum := "bb4cec2f21bb942d5e2ce617f6f8e0ca152813f4e15177dc4cf9883dc9fbb7b5", func := "picket/picketlaw8.CoreIs", spec := "coreIs", unfollowed := true, recurses := true, apart := false, narrowed := true }
def CoreIsUptoSaid : Prop := coreIsUptoRow.holds Try.pinned (OpenSpec.upto coreIsSpec)

/-- 'picketlaw8.CoreTwice', WHERE WHAT IT READS IS OF BULK AT MOST 1048576: true; the input reads as it did. -/
def coreTwiceUptoRow : OpenClaim := { program := "ytmnifphhdeppnaa", sum := "bb4cec2f21bb942d5e2ce617f6f8e0ca152813f4e15177dc4cf9883dc9fbb7b5", func := "picket/picketlaw8.CoreTwice", spec := "coreTwice", unfollowed := true, recurses := true, apart := false, narrowed := true }
def CoreTwiceUptoSaid : Prop := coreTwiceUptoRow.holds Try.pinned (OpenSpec.upto coreTwiceSpec)

end Rows
end Go.Proofs.Ytmnifphhdeppnaa

/-
  No cell of these rows narrows 'for every input' (looked for: loops, veiled, ifaces, maps, wideKeys, modest, calm, conditions, laid).
  DERIVED. THE GIVEN ROWS OF THIS SEAT. 5 by the template 'for every input the law returns true; each argument reads behind the call as it read before'; 0 by the template 'total and deterministic' (their statements: YtbgifokhlbaapaaTotals.lean).
  GIVEN WITH THE SEED: the statements are not yours to turn. If you find one false, say at which input.
  Laid BY PROGRAM, IN A SANDBOX (cutbox-rows.mjs): the forced cells as the released guide's own fill.sh prints them over the translation 782bbeb2e94205f4… (all of the seat's roots in one cut). By AI agents, Wed Nov 11 2026. No macro, syntax, notation, axiom, sorry.
-/
import Derived.Test.YtbgifokhlbaapaaChecked
import GoSem.Claim
import GoSem.ClaimJoined
import GoSem.ClaimMapViews
import Derived.JoinedTies
import Derived.KernelRfl
namespace Go.Proofs.Ytbgifokhlbaapaa
/- THE CELL 'sum', in the pinned program and in every row, IS THE sha256 OF THE DUMP (.gsa) THAT YtbgifokhlbaapaaProg.lean LOADS. Nothing in Lean hashes anything: it is a label: what it is worth is what the hold of that sum in a sandbox is worth. -/
noncomputable def Try.pinned : Pinned := { name := "ytbgifokhlbaapaa", sum := "782bbeb2e94205f47f625257954fb90e5d2ecd88d3267df86e5a06686a203e97", checked := Try.checked }
namespace Rows
def none {H : Type} : Left H := { results := [], args := [] }

/-- 'picketlaw23.ModeWorse': WHATEVER THE INPUT: true; the input reads as it did. -/
def modeWorseSpec : ChangeSpec := { name := "modeWorse", fn := fun _ => fun
  | [d1, d2, d3, d4, d5, d6] => { results := [.lit (.bool true)], args := [d1, d2, d3, d4, d5, d6] }
  | _ => none }
def modeWorseRow : OpenClaim := { program := "ytbgifokhlbaapaa", sum := "782bbeb2e94205f47f625257954fb90e5d2ecd88d3267df86e5a06686a203e97", func := "picket/picketlaw23.ModeWorse", spec := "modeWorse", apart := false }
def ModeWorseSaid : Prop := modeWorseRow.holds Try.pinned (OpenSpec.ofChange modeWorseSpec)

/-- ITS FALSE NEIGHBOUR: 'it returns false'. Refute it at one input. -/
def modeWorseWrong : ChangeSpec := { name := "modeWorse", fn := fun _ => fun
  | [d1, d2, d3, d4, d5, d6] => { results := [.lit (.bool false)], args := [d1, d2, d3, d4, d5, d6] }
  | _ => none }
def ModeWorseWrongFalsely : Prop := modeWorseRow.holds Try.pinned (OpenSpec.ofChange modeWorseWrong)

/-- 'picketlaw23.ModeRests': WHATEVER THE INPUT: true; the input reads as it did. -/
def modeRestsSpec : ChangeSpec := { name := "modeRests", fn := fun _ => fun
  | [d1, d2] => { results := [.lit (.bool true)], args := [d1, d2] }
  | _ => none }
def modeRestsRow : OpenClaim := { program := "ytbgifokhlbaapaa", sum := "782bbeb2e94205f47f625257954fb90e5d2ecd88d3267df86e5a06686a203e97", func := "picket/picketlaw23.ModeRests", spec := "modeRests", apart := false }
def ModeRestsSaid : Prop := modeRestsRow.holds Try.pinned (OpenSpec.ofChange modeRestsSpec)

/-- ITS FALSE NEIGHBOUR: 'it returns false'. Refute it at one input. -/
def modeRestsWrong : ChangeSpec := { name := "modeRests", fn := fun _ => fun
  | [d1, d2] => { results := [.lit (.bool false)], args := [d1, d2] }
  | _ => none }
def ModeRestsWrongFalsely : Prop := modeRestsRow.holds Try.pinned (OpenSpec.ofChange modeRestsWrong)

/-- 'picketlaw23.ModeRoads': WHATEVER THE INPUT: true; the input reads as it did. -/
def modeRoadsSpec : ChangeSpec := { name := "modeRoads", fn := fun _ => fun
  | [d1, d2] => { results := [.lit (.bool true)], args := [d1, d2] }
  | _ => none }
def modeRoadsRow : OpenClaim := { program := "ytbgifokhlbaapaa", sum := "782bbeb2e94205f47f625257954fb90e5d2ecd88d3267df86e5a06686a203e97", func := "picket/picketlaw23.ModeRoads", spec := "modeRoads", apart := false }
def ModeRoadsSaid : Prop := modeRoadsRow.holds Try.pinned (OpenSpec.ofChange modeRoadsSpec)

/-- ITS FALSE NEIGHBOUR: 'it returns false'. Refute it at one input. -/
def modeRoadsWrong : ChangeSpec := { name := "modeRoads", fn := fun _ => fun
  | [d1, d2] => { results := [.lit (.bool false)], args := [d1, d2] }
  | _ => none }
def ModeRoadsWrongFalsely : Prop := modeRoadsRow.holds Try.pinned (OpenSpec.ofChange modeRoadsWrong)

/-- 'picketlaw23.ModePlays': WHATEVER THE INPUT: true; the input reads as it did. -/
def modePlaysSpec : ChangeSpec := { name := "modePlays", fn := fun _ => fun
  | [d1, d2, d3, d4] => { results := [.lit (.bool true)], args := [d1, d2, d3, d4] }
  | _ => none }
def modePlaysRow : OpenClaim := { program := "ytbgifokhlbaapaa", sum := "782bbeb2e94205f47f625257954fb90e5d2ecd88d3267df86e5a06686a203e97", func := "picket/picketlaw23.ModePlays", spec := "modePlays", apart := false }
def ModePlaysSaid : Prop := modePlaysRow.holds Try.pinned (OpenSpec.ofChange modePlaysSpec)

/-- ITS FALSE NEIGHBOUR: 'it returns false'. Refute it at one input. -/
def modePlaysWrong : ChangeSpec := { name := "modePlays", fn := fun _ => fun
  | [d1, d2, d3, d4] => { results := [.lit (.bool false)], args := [d1, d2, d3, d4] }
  | _ => none }
def ModePlaysWrongFalsely : Prop := modePlaysRow.holds Try.pinned (OpenSpec.ofChange modePlaysWrong)

/-- 'picketlaw23.ModeNone': WHATEVER THE INPUT: true; the input reads as it did. -/
def modeNoneSpec : ChangeSpec := { name := "modeNone", fn := fun _ => fun
  | [d] => { results := [.lit (.bool true)], args := [d] }
  | _ => none }
def modeNoneRow : OpenClaim := { program := "ytbgifokhlbaapaa", sum := "782bbeb2e94205f47f625257954fb90e5d2ecd88d3267df86e5a06686a203e97", func := "picket/picketlaw23.ModeNone", spec := "modeNone", apart := false }
def ModeNoneSaid : Prop := modeNoneRow.holds Try.pinned (OpenSpec.ofChange modeNoneSpec)

/-- ITS FALSE NEIGHBOUR: 'it returns false'. Refute it at one input. -/
def modeNoneWrong : ChangeSpec := { name := "modeNone", fn := fun _ => fun
  | [d] => { results := [.lit (.bool false)], args := [d] }
  | _ => none }
def ModeNoneWrongFalsely : Prop := modeNoneRow.holds Try.pinned (OpenSpec.ofChange modeNoneWrong)

/- THE SECOND FORM. 'bulk': how many values and letters a reading holds, each counted each time it is reached (what is shared counts as often as it is met; a slice's spare places count too). A statement '..UptoSaid' is the law's where the arguments, and the package variables that the reading takes, are together of bulk at most 1048576: NARROWER than '..Said'. Prove '..Said' where nothing that the law and all that it calls make is longer than what came in: it says more and counts as full. Else prove '..UptoSaid'. A law counts once. -/
mutual
def uptoBulk {H : Type} : DataW H → Nat
  | .lit (.string bytes) => bytes.length + 1
  | .lit _ => 1
  | .nil => 1
  | .ptr d => uptoBulk d + 1
  | .slice elems spare => uptoBulkAll elems + uptoBulkAll spare + 1
  | .agg parts => uptoBulkAll parts + 1
  | .iface _ d => uptoBulk d + 1
  | .map entries => uptoBulkEntries entries + 1
  | .held _ => 1
def uptoBulkAll {H : Type} : List (DataW H) → Nat
  | [] => 0
  | d :: r => uptoBulk d + uptoBulkAll r
def uptoBulkEntries {H : Type} : List (Lit × DataW H) → Nat
  | [] => 0
  | x :: r => uptoBulkEntry x + uptoBulkEntries r
def uptoBulkEntry {H : Type} : Lit × DataW H → Nat
  | (.string bytes, d) => bytes.length + uptoBulk d + 1
  | (_, d) => uptoBulk d + 1
 end
def uptoSmall : (H : Type) → List (DataW H) → Bool := fun _ ds => decide (uptoBulkAll ds ≤ 1048576)
def OpenSpec.upto (s : _root_.Go.ChangeSpec) : _root_.Go.OpenSpec := { _root_.Go.OpenSpec.ofChange s with cond := some uptoSmall }

/-- 'picketlaw23.ModeWorse', WHERE WHAT IT READS IS OF BULK AT MOST 1048576: true; the input reads as it did. -/
def modeWorseUptoRow : OpenClaim := { program := "ytbgifokhlbaapaa", sum := "782bbeb2e94205f47f625257954fb90e5d2ecd88d3267df86e5a06686a203e97", func := "picket/picketlaw23.ModeWorse", spec := "modeWorse", apart := false, narrowed := true }
def ModeWorseUptoSaid : Prop := modeWorseUptoRow.holds Try.pinned (OpenSpec.upto modeWorseSpec)

/-- 'picketlaw23.ModeRests', WHERE WHAT IT READS IS OF BULK AT MOST 1048576: true; the input reads as it did. -/
def modeRestsUptoRow : OpenClaim := { program := "ytbgifokhlbaapaa", sum := "782bbeb2e94205f47f625257954fb90e5d2ecd88d3267df86e5a06686a203e97", func := "picket/picketlaw23.ModeRests", spec := "modeRests", apart := false, narrowed := true }
def ModeRestsUptoSaid : Prop := modeRestsUptoRow.holds Try.pinned (OpenSpec.upto modeRestsSpec)

/-- 'picketlaw23.ModeRoads', WHERE WHAT IT READS IS OF BULK AT MOST 1048576: true; the input reads as it did. -/
def modeRoadsUptoRow : OpenClaim := { program := "ytbgifokhlbaapaa", sum := "782bbeb2e94205f47f625257954fb90e5d2ecd88d3267df86e5a06686a203e97", func := "picket/picketlaw23.ModeRoads", spec := "modeRoads", apart := false, narrowed := true }
def ModeRoadsUptoSaid : Prop := modeRoadsUptoRow.holds Try.pinned (OpenSpec.upto modeRoadsSpec)

/-- 'picketlaw23.ModePlays', WHERE WHAT IT READS IS OF BULK AT MOST 1048576: true; the input reads as it did. -/
def modePlaysUptoRow : OpenClaim := { program := "ytbgifokhlbaapaa", sum := "782bbeb2e94205f47f625257954fb90e5d2ecd88d3267df86e5a06686a203e97", func := "picket/picketlaw23.ModePlays", spec := "modePlays", apart := false, narrowed := true }
def ModePlaysUptoSaid : Prop := modePlaysUptoRow.holds Try.pinned (OpenSpec.upto modePlaysSpec)

/-- 'picketlaw23.ModeNone', WHERE WHAT IT READS IS OF BULK AT MOST 1048576: true; the input reads as it did. -/
def modeNoneUptoRow : OpenClaim := { program := "ytbgifokhlbaapaa", sum := "782bbeb2e94205f47f625257954fb90e5d2ecd88d3267df86e5a06686a203e97", func := "picket/picketlaw23.ModeNone", spec := "modeNone", apart := false, narrowed := true }
def ModeNoneUptoSaid : Prop := modeNoneUptoRow.holds Try.pinned (OpenSpec.upto modeNoneSpec)

end Rows
end Go.Proofs.Ytbgifokhlbaapaa

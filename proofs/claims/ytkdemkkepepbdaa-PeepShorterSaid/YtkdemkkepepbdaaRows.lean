/-
  No cell of these rows narrows 'for every input' (looked for: loops, veiled, ifaces, maps, wideKeys, modest, calm, conditions, laid).
  DERIVED. THE GIVEN ROWS OF THIS SEAT. 2 by the template 'for every input the law returns true; each argument reads behind the call as it read before'; 0 by the template 'total and deterministic' (their statements: YtkdemkkepepbdaaTotals.lean).
  GIVEN WITH THE SEED: the statements are not yours to turn. If you find one false, say at which input.
  Laid BY PROGRAM, IN A SANDBOX (cutbox-rows.mjs): the forced cells as the released guide's own fill.sh prints them over the translation 5466c2a25b0aadd8… (all of the seat's roots in one cut). By AI agents, Wed Nov 11 2026. No macro, syntax, notation, axiom, sorry.
-/
import Derived.Test.YtkdemkkepepbdaaChecked
import GoSem.Claim
import GoSem.ClaimJoined
import GoSem.ClaimMapViews
import Derived.JoinedTies
import Derived.KernelRfl
namespace Go.Proofs.Ytkdemkkepepbdaa
/- THE CELL 'sum', in the pinned program and in every row, IS THE sha256 OF THE DUMP (.gsa) THAT YtkdemkkepepbdaaProg.lean LOADS. Nothing in Lean hashes anything: it is a label: what it is worth is what the hold of that sum in a sandbox is worth. -/
noncomputable def Try.pinned : Pinned := { name := "ytkdemkkepepbdaa", sum := "5466c2a25b0aadd80076d57e7f7b529518fb060cb184140c4182bd997b252191", checked := Try.checked }
namespace Rows
def none {H : Type} : Left H := { results := [], args := [] }

/-- 'picketlaw11.PeepShorter': WHATEVER THE INPUT: true; the input reads as it did. -/
def peepShorterSpec : ChangeSpec := { name := "peepShorter", fn := fun _ => fun
  | [d1, d2] => { results := [.lit (.bool true)], args := [d1, d2] }
  | _ => none }
def peepShorterRow : OpenClaim := { program := "ytkdemkkepepbdaa", sum := "5466c2a25b0aadd80076d57e7f7b529518fb060cb184140c4182bd997b252191", func := "picket/picketlaw11.PeepShorter", spec := "peepShorter", unfollowed := true, recurses := true, apart := false }
def PeepShorterSaid : Prop := peepShorterRow.holds Try.pinned (OpenSpec.ofChange peepShorterSpec)

/-- ITS FALSE NEIGHBOUR: 'it returns false'. Refute it at one input. -/
def peepShorterWrong : ChangeSpec := { name := "peepShorter", fn := fun _ => fun
  | [d1, d2] => { results := [.lit (.bool false)], args := [d1, d2] }
  | _ => none }
def PeepShorterWrongFalsely : Prop := peepShorterRow.holds Try.pinned (OpenSpec.ofChange peepShorterWrong)

/-- 'picketlaw11.PeepRules': WHATEVER THE INPUT: true; the input reads as it did. -/
def peepRulesSpec : ChangeSpec := { name := "peepRules", fn := fun _ => fun
  | [d1, d2] => { results := [.lit (.bool true)], args := [d1, d2] }
  | _ => none }
def peepRulesRow : OpenClaim := { program := "ytkdemkkepepbdaa", sum := "5466c2a25b0aadd80076d57e7f7b529518fb060cb184140c4182bd997b252191", func := "picket/picketlaw11.PeepRules", spec := "peepRules", unfollowed := true, recurses := true, apart := false }
def PeepRulesSaid : Prop := peepRulesRow.holds Try.pinned (OpenSpec.ofChange peepRulesSpec)

/-- ITS FALSE NEIGHBOUR: 'it returns false'. Refute it at one input. -/
def peepRulesWrong : ChangeSpec := { name := "peepRules", fn := fun _ => fun
  | [d1, d2] => { results := [.lit (.bool false)], args := [d1, d2] }
  | _ => none }
def PeepRulesWrongFalsely : Prop := peepRulesRow.holds Try.pinned (OpenSpec.ofChange peepRulesWrong)

/- THE SECOND FORM. 'bulk': how many values and letters a reading holds, each counted each time it is reached (what is shared counts as often as it is met; a slice's spare places count too). A statement '..UptoSaid' is the law's where the arguments, and the package variables that the reading takes, are together of bulk at most 1048576: NARROWER than '..Said'. Prove '..Said' where nothing that the law and all that it calls make is longer than what came in: it says more and counts as full. Else prove '..UptoSaid'. A law counts once. -/
mutual
def uptoBulk {H : Type} : DataW H → Nat
  | .lit (.string bytes) => bytes.length + 1
  | .lit _ => 1
  | .nil => 1
  | .ptr d => uptoBulk d + 1
  | .slice elems spare => uptoBulkAll elems + uptoBulkAll spare + 1
  | .agg parts => uptoBulkAll parts + 1
  | .iface _ d => uptoBulk d + 1
  | .map entries => uptoBulkEntries entries + 1
  | .held _ => 1
def uptoBulkAll {H : Type} : List (DataW H) → Nat
  | [] => 0
  | d :: r => uptoBulk d + uptoBulkAll r
def uptoBulkEntries {H : Type} : List (Lit × DataW H) → Nat
  | [] => 0
  | x :: r => uptoBulkEntry x + uptoBulkEntries r
def uptoBulkEntry {H : Type} : Lit × DataW H → Nat
  | (.string bytes, d) => bytes.length + uptoBulk d + 1
  | (_, d) => uptoBulk d + 1
 end
def uptoSmall : (H : Type) → List (DataW H) → Bool := fun _ ds => decide (uptoBulkAll ds ≤ 1048576)
def OpenSpec.upto (s : _root_.Go.ChangeSpec) : _root_.Go.OpenSpec := { _root_.Go.OpenSpec.ofChange s with cond := some uptoSmall }

/-- 'picketlaw11.PeepShorter', WHERE WHAT IT READS IS OF BULK AT MOST 1048576: true; the input reads as it did. -/
def peepShorterUptoRow : OpenClaim := { program := "ytkdemkkepepbdaa", sum := "5466c2a25b0aadd80076d57e7f7b529518fb060cb184140c4182bd997b252191", func := "picket/picketlaw11.PeepShorter", spec := "peepShorter", unfollowed := true, recurses := true, apart := false, narrowed := true }
def PeepShorterUptoSaid : Prop := peepShorterUptoRow.holds Try.pinned (OpenSpec.upto peepShorterSpec)

/-- 'picketlaw11.PeepRules', WHERE WHAT IT READS IS OF BULK AT MOST 1048576: true; the input reads as it did. -/
def peepRulesUptoRow : OpenClaim := { program := "ytkdemkkepepbdaa", sum := "5466c2a25b0aadd80076d57e7f7b529518fb060cb184140c4182bd997b252191", func := "picket/picketlaw11.PeepRules", spec := "peepRules", unfollowed := true, recurses := true, apart := false, narrowed := true }
def PeepRulesUptoSaid : Prop := peepRulesUptoRow.holds Try.pinned (OpenSpec.upto peepRulesSpec)

end Rows
end Go.Proofs.Ytkdemkkepepbdaa

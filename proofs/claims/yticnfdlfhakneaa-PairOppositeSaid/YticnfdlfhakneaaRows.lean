/-
  No cell of these rows narrows 'for every input' (looked for: loops, veiled, ifaces, maps, wideKeys, modest, calm, conditions, laid).
  DERIVED. THE GIVEN ROWS OF THIS SEAT. 5 by the template 'for every input the law returns true; each argument reads behind the call as it read before'; 0 by the template 'total and deterministic' (their statements: YticnfdlfhakneaaTotals.lean).
  GIVEN WITH THE SEED: the statements are not yours to turn. If you find one false, say at which input.
  Laid BY PROGRAM, IN A SANDBOX (cutbox-rows.mjs): the forced cells as the released guide's own fill.sh prints them over the translation 31110ade2b01c4ff… (all of the seat's roots in one cut). By AI agents, Wed Nov 11 2026. No macro, syntax, notation, axiom, sorry.
-/
import Derived.Test.YticnfdlfhakneaaChecked
import GoSem.Claim
import GoSem.ClaimJoined
import GoSem.ClaimMapViews
import Derived.JoinedTies
import Derived.KernelRfl
namespace Go.Proofs.Yticnfdlfhakneaa
/- THE CELL 'sum', in the pinned program and in every row, IS THE sha256 OF THE DUMP (.gsa) THAT YticnfdlfhakneaaProg.lean LOADS. Nothing in Lean hashes anything: it is a label: what it is worth is what the hold of that sum in a sandbox is worth. -/
noncomputable def Try.pinned : Pinned := { name := "yticnfdlfhakneaa", sum := "31110ade2b01c4ff56380d47292d59a825902c976f818449bccfc74d5ec48075", checked := Try.checked }
namespace Rows
def none {H : Type} : Left H := { results := [], args := [] }

/-- 'picketlaw19.PairOpposite': WHATEVER THE INPUT: true; the input reads as it did. -/
def pairOppositeSpec : ChangeSpec := { name := "pairOpposite", fn := fun _ => fun
  | [d1, d2, d3] => { results := [.lit (.bool true)], args := [d1, d2, d3] }
  | _ => none }
def pairOppositeRow : OpenClaim := { program := "yticnfdlfhakneaa", sum := "31110ade2b01c4ff56380d47292d59a825902c976f818449bccfc74d5ec48075", func := "picket/picketlaw19.PairOpposite", spec := "pairOpposite", inPlace := ["math/bits.Add64"], apart := false }
def PairOppositeSaid : Prop := pairOppositeRow.holds Try.pinned (OpenSpec.ofChange pairOppositeSpec)

/-- ITS FALSE NEIGHBOUR: 'it returns false'. Refute it at one input. -/
def pairOppositeWrong : ChangeSpec := { name := "pairOpposite", fn := fun _ => fun
  | [d1, d2, d3] => { results := [.lit (.bool false)], args := [d1, d2, d3] }
  | _ => none }
def PairOppositeWrongFalsely : Prop := pairOppositeRow.holds Try.pinned (OpenSpec.ofChange pairOppositeWrong)

/-- 'picketlaw19.PairApart': WHATEVER THE INPUT: true; the input reads as it did. -/
def pairApartSpec : ChangeSpec := { name := "pairApart", fn := fun _ => fun
  | [d1, d2, d3, d4, d5, d6, d7, d8, d9, d10] => { results := [.lit (.bool true)], args := [d1, d2, d3, d4, d5, d6, d7, d8, d9, d10] }
  | _ => none }
def pairApartRow : OpenClaim := { program := "yticnfdlfhakneaa", sum := "31110ade2b01c4ff56380d47292d59a825902c976f818449bccfc74d5ec48075", func := "picket/picketlaw19.PairApart", spec := "pairApart", inPlace := ["math/bits.Add64"], apart := false }
def PairApartSaid : Prop := pairApartRow.holds Try.pinned (OpenSpec.ofChange pairApartSpec)

/-- ITS FALSE NEIGHBOUR: 'it returns false'. Refute it at one input. -/
def pairApartWrong : ChangeSpec := { name := "pairApart", fn := fun _ => fun
  | [d1, d2, d3, d4, d5, d6, d7, d8, d9, d10] => { results := [.lit (.bool false)], args := [d1, d2, d3, d4, d5, d6, d7, d8, d9, d10] }
  | _ => none }
def PairApartWrongFalsely : Prop := pairApartRow.holds Try.pinned (OpenSpec.ofChange pairApartWrong)

/-- 'picketlaw19.PairOlder': WHATEVER THE INPUT: true; the input reads as it did. -/
def pairOlderSpec : ChangeSpec := { name := "pairOlder", fn := fun _ => fun
  | [d1, d2, d3, d4, d5, d6, d7] => { results := [.lit (.bool true)], args := [d1, d2, d3, d4, d5, d6, d7] }
  | _ => none }
def pairOlderRow : OpenClaim := { program := "yticnfdlfhakneaa", sum := "31110ade2b01c4ff56380d47292d59a825902c976f818449bccfc74d5ec48075", func := "picket/picketlaw19.PairOlder", spec := "pairOlder", inPlace := ["math/bits.Add64"], apart := false }
def PairOlderSaid : Prop := pairOlderRow.holds Try.pinned (OpenSpec.ofChange pairOlderSpec)

/-- ITS FALSE NEIGHBOUR: 'it returns false'. Refute it at one input. -/
def pairOlderWrong : ChangeSpec := { name := "pairOlder", fn := fun _ => fun
  | [d1, d2, d3, d4, d5, d6, d7] => { results := [.lit (.bool false)], args := [d1, d2, d3, d4, d5, d6, d7] }
  | _ => none }
def PairOlderWrongFalsely : Prop := pairOlderRow.holds Try.pinned (OpenSpec.ofChange pairOlderWrong)

/-- 'picketlaw19.PairMany': WHATEVER THE INPUT: true; the input reads as it did. -/
def pairManySpec : ChangeSpec := { name := "pairMany", fn := fun _ => fun
  | [d1, d2, d3] => { results := [.lit (.bool true)], args := [d1, d2, d3] }
  | _ => none }
def pairManyRow : OpenClaim := { program := "yticnfdlfhakneaa", sum := "31110ade2b01c4ff56380d47292d59a825902c976f818449bccfc74d5ec48075", func := "picket/picketlaw19.PairMany", spec := "pairMany", inPlace := ["math/bits.Add64"], apart := false }
def PairManySaid : Prop := pairManyRow.holds Try.pinned (OpenSpec.ofChange pairManySpec)

/-- ITS FALSE NEIGHBOUR: 'it returns false'. Refute it at one input. -/
def pairManyWrong : ChangeSpec := { name := "pairMany", fn := fun _ => fun
  | [d1, d2, d3] => { results := [.lit (.bool false)], args := [d1, d2, d3] }
  | _ => none }
def PairManyWrongFalsely : Prop := pairManyRow.holds Try.pinned (OpenSpec.ofChange pairManyWrong)

/-- 'picketlaw19.PairShifted': WHATEVER THE INPUT: true; the input reads as it did. -/
def pairShiftedSpec : ChangeSpec := { name := "pairShifted", fn := fun _ => fun
  | [d1, d2, d3, d4, d5, d6, d7] => { results := [.lit (.bool true)], args := [d1, d2, d3, d4, d5, d6, d7] }
  | _ => none }
def pairShiftedRow : OpenClaim := { program := "yticnfdlfhakneaa", sum := "31110ade2b01c4ff56380d47292d59a825902c976f818449bccfc74d5ec48075", func := "picket/picketlaw19.PairShifted", spec := "pairShifted", inPlace := ["math/bits.Add64"], apart := false }
def PairShiftedSaid : Prop := pairShiftedRow.holds Try.pinned (OpenSpec.ofChange pairShiftedSpec)

/-- ITS FALSE NEIGHBOUR: 'it returns false'. Refute it at one input. -/
def pairShiftedWrong : ChangeSpec := { name := "pairShifted", fn := fun _ => fun
  | [d1, d2, d3, d4, d5, d6, d7] => { results := [.lit (.bool false)], args := [d1, d2, d3, d4, d5, d6, d7] }
  | _ => none }
def PairShiftedWrongFalsely : Prop := pairShiftedRow.holds Try.pinned (OpenSpec.ofChange pairShiftedWrong)

/- THE SECOND FORM. 'bulk': how many values and letters a reading holds, each counted each time it is reached (what is shared counts as often as it is met; a slice's spare places count too). A statement '..UptoSaid' is the law's where the arguments, and the package variables that the reading takes, are together of bulk at most 1048576: NARROWER than '..Said'. Prove '..Said' where nothing that the law and all that it calls make is longer than what came in: it says more and counts as full. Else prove '..UptoSaid'. A law counts once. -/
mutual
def uptoBulk {H : Type} : DataW H → Nat
  | .lit (.string bytes) => bytes.length + 1
  | .lit _ => 1
  | .nil => 1
  | .ptr d => uptoBulk d + 1
  | .slice elems spare => uptoBulkAll elems + uptoBulkAll spare + 1
  | .agg parts => uptoBulkAll parts + 1
  | .iface _ d => uptoBulk d + 1
  | .map entries => uptoBulkEntries entries + 1
  | .held _ => 1
def uptoBulkAll {H : Type} : List (DataW H) → Nat
  | [] => 0
  | d :: r => uptoBulk d + uptoBulkAll r
def uptoBulkEntries {H : Type} : List (Lit × DataW H) → Nat
  | [] => 0
  | x :: r => uptoBulkEntry x + uptoBulkEntries r
def uptoBulkEntry {H : Type} : Lit × DataW H → Nat
  | (.string bytes, d) => bytes.length + uptoBulk d + 1
  | (_, d) => uptoBulk d + 1
 end
def uptoSmall : (H : Type) → List (DataW H) → Bool := fun _ ds => decide (uptoBulkAll ds ≤ 1048576)
def OpenSpec.upto (s : _root_.Go.ChangeSpec) : _root_.Go.OpenSpec := { _root_.Go.OpenSpec.ofChange s with cond := some uptoSmall }

/-- 'picketlaw19.PairOpposite', WHERE WHAT IT READS IS OF BULK AT MOST 1048576: true; the input reads as it did. -/
def pairOppositeUptoRow : OpenClaim := { program := "yticnfdlfhakneaa", sum := "31110ade2b01c4ff56380d47292d59a825902c976f818449bccfc74d5ec48075", func := "picket/picketlaw19.PairOpposite", spec := "pairOpposite", inPlace := ["math/bits.Add64"], apart := false, narrowed := true }
def PairOppositeUptoSaid : Prop := pairOppositeUptoRow.holds Try.pinned (OpenSpec.upto pairOppositeSpec)

/-- 'picketlaw19.PairApart', WHERE WHAT IT READS IS OF BULK AT MOST 1048576: true; the input reads as it did. -/
def pairApartUptoRow : OpenClaim := { program := "yticnfdlfhakneaa", sum := "31110ade2b01c4ff56380d47292d59a825902c976f818449bccfc74d5ec48075", func := "picket/picketlaw19.PairApart", spec := "pairApart", inPlace := ["math/bits.Add64"], apart := false, narrowed := true }
def PairApartUptoSaid : Prop := pairApartUptoRow.holds Try.pinned (OpenSpec.upto pairApartSpec)

/-- 'picketlaw19.PairOlder', WHERE WHAT IT READS IS OF BULK AT MOST 1048576: true; the input reads as it did. -/
def pairOlderUptoRow : OpenClaim := { program := "yticnfdlfhakneaa", sum := "31110ade2b01c4ff56380d47292d59a825902c976f818449bccfc74d5ec48075", func := "picket/picketlaw19.PairOlder", spec := "pairOlder", inPlace := ["math/bits.Add64"], apart := false, narrowed := true }
def PairOlderUptoSaid : Prop := pairOlderUptoRow.holds Try.pinned (OpenSpec.upto pairOlderSpec)

/-- 'picketlaw19.PairMany', WHERE WHAT IT READS IS OF BULK AT MOST 1048576: true; the input reads as it did. -/
def pairManyUptoRow : OpenClaim := { program := "yticnfdlfhakneaa", sum := "31110ade2b01c4ff56380d47292d59a825902c976f818449bccfc74d5ec48075", func := "picket/picketlaw19.PairMany", spec := "pairMany", inPlace := ["math/bits.Add64"], apart := false, narrowed := true }
def PairManyUptoSaid : Prop := pairManyUptoRow.holds Try.pinned (OpenSpec.upto pairManySpec)

/-- 'picketlaw19.PairShifted', WHERE WHAT IT READS IS OF BULK AT MOST 1048576: true; the input reads as it did. -/
def pairShiftedUptoRow : OpenClaim := { program := "yticnfdlfhakneaa", sum := "31110ade2b01c4ff56380d47292d59a825902c976f818449bccfc74d5ec48075", func := "picket/picketlaw19.PairShifted", spec := "pairShifted", inPlace := ["math/bits.Add64"], apart := false, narrowed := true }
def PairShiftedUptoSaid : Prop := pairShiftedUptoRow.holds Try.pinned (OpenSpec.upto pairShiftedSpec)

end Rows
end Go.Proofs.Yticnfdlfhakneaa

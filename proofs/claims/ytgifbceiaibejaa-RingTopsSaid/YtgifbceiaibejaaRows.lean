/-
  No cell of these rows narrows 'for every input' (looked for: loops, veiled, ifaces, maps, wideKeys, modest, calm, conditions, laid).
  DERIVED. THE GIVEN ROWS OF THIS SEAT. 7 by the template 'for every input the law returns true; each argument reads behind the call as it read before'; 0 by the template 'total and deterministic' (their statements: YtgifbceiaibejaaTotals.lean).
  GIVEN WITH THE SEED: the statements are not yours to turn. If you find one false, say at which input.
  Laid BY PROGRAM, IN A SANDBOX (cutbox-rows.mjs): the forced cells as the released guide's own fill.sh prints them over the translation 0d6811337b8bf03c… (all of the seat's roots in one cut). By AI agents, Wed Nov 11 2026. No macro, syntax, notation, axiom, sorry.
-/
import Derived.Test.YtgifbceiaibejaaChecked
import GoSem.Claim
import GoSem.ClaimJoined
import GoSem.ClaimMapViews
import Derived.JoinedTies
import Derived.KernelRfl
namespace Go.Proofs.Ytgifbceiaibejaa
/- THE CELL 'sum', in the pinned program and in every row, IS THE sha256 OF THE DUMP (.gsa) THAT YtgifbceiaibejaaProg.lean LOADS. Nothing in Lean hashes anything: it is a label: what it is worth is what the hold of that sum in a sandbox is worth. -/
noncomputable def Try.pinned : Pinned := { name := "ytgifbceiaibejaa", sum := "0d6811337b8bf03c206b928e5c843b189c611e5cd8c2d8a39f761c3bbe3f59b8", checked := Try.checked }
namespace Rows
def none {H : Type} : Left H := { results := [], args := [] }

/-- 'picketlaw3.RingLast': WHATEVER THE INPUT: true; the input reads as it did. -/
def ringLastSpec : ChangeSpec := { name := "ringLast", fn := fun _ => fun
  | [d1, d2] => { results := [.lit (.bool true)], args := [d1, d2] }
  | _ => none }
def ringLastRow : OpenClaim := { program := "ytgifbceiaibejaa", sum := "0d6811337b8bf03c206b928e5c843b189c611e5cd8c2d8a39f761c3bbe3f59b8", func := "picket/picketlaw3.RingLast", spec := "ringLast", unfollowed := true, recurses := true, apart := false }
def RingLastSaid : Prop := ringLastRow.holds Try.pinned (OpenSpec.ofChange ringLastSpec)

/-- ITS FALSE NEIGHBOUR: 'it returns false'. Refute it at one input. -/
def ringLastWrong : ChangeSpec := { name := "ringLast", fn := fun _ => fun
  | [d1, d2] => { results := [.lit (.bool false)], args := [d1, d2] }
  | _ => none }
def RingLastWrongFalsely : Prop := ringLastRow.holds Try.pinned (OpenSpec.ofChange ringLastWrong)

/-- 'picketlaw3.RingTops': WHATEVER THE INPUT: true; the input reads as it did. -/
def ringTopsSpec : ChangeSpec := { name := "ringTops", fn := fun _ => fun
  | [d1, d2, d3] => { results := [.lit (.bool true)], args := [d1, d2, d3] }
  | _ => none }
def ringTopsRow : OpenClaim := { program := "ytgifbceiaibejaa", sum := "0d6811337b8bf03c206b928e5c843b189c611e5cd8c2d8a39f761c3bbe3f59b8", func := "picket/picketlaw3.RingTops", spec := "ringTops", unfollowed := true, recurses := true, apart := false }
def RingTopsSaid : Prop := ringTopsRow.holds Try.pinned (OpenSpec.ofChange ringTopsSpec)

/-- ITS FALSE NEIGHBOUR: 'it returns false'. Refute it at one input. -/
def ringTopsWrong : ChangeSpec := { name := "ringTops", fn := fun _ => fun
  | [d1, d2, d3] => { results := [.lit (.bool false)], args := [d1, d2, d3] }
  | _ => none }
def RingTopsWrongFalsely : Prop := ringTopsRow.holds Try.pinned (OpenSpec.ofChange ringTopsWrong)

/-- 'picketlaw3.RingPieces': WHATEVER THE INPUT: true; the input reads as it did. -/
def ringPiecesSpec : ChangeSpec := { name := "ringPieces", fn := fun _ => fun
  | [d1, d2, d3, d4] => { results := [.lit (.bool true)], args := [d1, d2, d3, d4] }
  | _ => none }
def ringPiecesRow : OpenClaim := { program := "ytgifbceiaibejaa", sum := "0d6811337b8bf03c206b928e5c843b189c611e5cd8c2d8a39f761c3bbe3f59b8", func := "picket/picketlaw3.RingPieces", spec := "ringPieces", unfollowed := true, recurses := true, apart := false }
def RingPiecesSaid : Prop := ringPiecesRow.holds Try.pinned (OpenSpec.ofChange ringPiecesSpec)

/-- ITS FALSE NEIGHBOUR: 'it returns false'. Refute it at one input. -/
def ringPiecesWrong : ChangeSpec := { name := "ringPieces", fn := fun _ => fun
  | [d1, d2, d3, d4] => { results := [.lit (.bool false)], args := [d1, d2, d3, d4] }
  | _ => none }
def RingPiecesWrongFalsely : Prop := ringPiecesRow.holds Try.pinned (OpenSpec.ofChange ringPiecesWrong)

/-- 'picketlaw3.RingCounts': WHATEVER THE INPUT: true; the input reads as it did. -/
def ringCountsSpec : ChangeSpec := { name := "ringCounts", fn := fun _ => fun
  | [d1, d2] => { results := [.lit (.bool true)], args := [d1, d2] }
  | _ => none }
def ringCountsRow : OpenClaim := { program := "ytgifbceiaibejaa", sum := "0d6811337b8bf03c206b928e5c843b189c611e5cd8c2d8a39f761c3bbe3f59b8", func := "picket/picketlaw3.RingCounts", spec := "ringCounts", unfollowed := true, recurses := true, apart := false }
def RingCountsSaid : Prop := ringCountsRow.holds Try.pinned (OpenSpec.ofChange ringCountsSpec)

/-- ITS FALSE NEIGHBOUR: 'it returns false'. Refute it at one input. -/
def ringCountsWrong : ChangeSpec := { name := "ringCounts", fn := fun _ => fun
  | [d1, d2] => { results := [.lit (.bool false)], args := [d1, d2] }
  | _ => none }
def RingCountsWrongFalsely : Prop := ringCountsRow.holds Try.pinned (OpenSpec.ofChange ringCountsWrong)

/-- 'picketlaw3.RingUps': WHATEVER THE INPUT: true; the input reads as it did. -/
def ringUpsSpec : ChangeSpec := { name := "ringUps", fn := fun _ => fun
  | [d1, d2] => { results := [.lit (.bool true)], args := [d1, d2] }
  | _ => none }
def ringUpsRow : OpenClaim := { program := "ytgifbceiaibejaa", sum := "0d6811337b8bf03c206b928e5c843b189c611e5cd8c2d8a39f761c3bbe3f59b8", func := "picket/picketlaw3.RingUps", spec := "ringUps", unfollowed := true, recurses := true, apart := false }
def RingUpsSaid : Prop := ringUpsRow.holds Try.pinned (OpenSpec.ofChange ringUpsSpec)

/-- ITS FALSE NEIGHBOUR: 'it returns false'. Refute it at one input. -/
def ringUpsWrong : ChangeSpec := { name := "ringUps", fn := fun _ => fun
  | [d1, d2] => { results := [.lit (.bool false)], args := [d1, d2] }
  | _ => none }
def RingUpsWrongFalsely : Prop := ringUpsRow.holds Try.pinned (OpenSpec.ofChange ringUpsWrong)

/-- 'picketlaw3.RingPlays': WHATEVER THE INPUT: true; the input reads as it did. -/
def ringPlaysSpec : ChangeSpec := { name := "ringPlays", fn := fun _ => fun
  | [d1, d2] => { results := [.lit (.bool true)], args := [d1, d2] }
  | _ => none }
def ringPlaysRow : OpenClaim := { program := "ytgifbceiaibejaa", sum := "0d6811337b8bf03c206b928e5c843b189c611e5cd8c2d8a39f761c3bbe3f59b8", func := "picket/picketlaw3.RingPlays", spec := "ringPlays", unfollowed := true, recurses := true, apart := false }
def RingPlaysSaid : Prop := ringPlaysRow.holds Try.pinned (OpenSpec.ofChange ringPlaysSpec)

/-- ITS FALSE NEIGHBOUR: 'it returns false'. Refute it at one input. -/
def ringPlaysWrong : ChangeSpec := { name := "ringPlays", fn := fun _ => fun
  | [d1, d2] => { results := [.lit (.bool false)], args := [d1, d2] }
  | _ => none }
def RingPlaysWrongFalsely : Prop := ringPlaysRow.holds Try.pinned (OpenSpec.ofChange ringPlaysWrong)

/-- 'picketlaw3.RingNone': WHATEVER THE INPUT: true; the input reads as it did. -/
def ringNoneSpec : ChangeSpec := { name := "ringNone", fn := fun _ => fun
  | [d] => { results := [.lit (.bool true)], args := [d] }
  | _ => none }
def ringNoneRow : OpenClaim := { program := "ytgifbceiaibejaa", sum := "0d6811337b8bf03c206b928e5c843b189c611e5cd8c2d8a39f761c3bbe3f59b8", func := "picket/picketlaw3.RingNone", spec := "ringNone", unfollowed := true, recurses := true, apart := false }
def RingNoneSaid : Prop := ringNoneRow.holds Try.pinned (OpenSpec.ofChange ringNoneSpec)

/-- ITS FALSE NEIGHBOUR: 'it returns false'. Refute it at one input. -/
def ringNoneWrong : ChangeSpec := { name := "ringNone", fn := fun _ => fun
  | [d] => { results := [.lit (.bool false)], args := [d] }
  | _ => none }
def RingNoneWrongFalsely : Prop := ringNoneRow.holds Try.pinned (OpenSpec.ofChange ringNoneWrong)

/- THE SECOND FORM. 'bulk': how many values and letters a reading holds, each counted each time it is reached (what is shared counts as often as it is met; a slice's spare places count too). A statement '..UptoSaid' is the law's where the arguments, and the package variables that the reading takes, are together of bulk at most 1048576: NARROWER than '..Said'. Prove '..Said' where nothing that the law and all that it calls make is longer than what came in: it says more and counts as full. Else prove '..UptoSaid'. A law counts once. -/
mutual
def uptoBulk {H : Type} : DataW H → Nat
  | .lit (.string bytes) => bytes.length + 1
  | .lit _ => 1
  | .nil => 1
  | .ptr d => uptoBulk d + 1
  | .slice elems spare => uptoBulkAll elems + uptoBulkAll spare + 1
  | .agg parts => uptoBulkAll parts + 1
  | .iface _ d => uptoBulk d + 1
  | .map entries => uptoBulkEntries entries + 1
  | .held _ => 1
def uptoBulkAll {H : Type} : List (DataW H) → Nat
  | [] => 0
  | d :: r => uptoBulk d + uptoBulkAll r
def uptoBulkEntries {H : Type} : List (Lit × DataW H) → Nat
  | [] => 0
  | x :: r => uptoBulkEntry x + uptoBulkEntries r
def uptoBulkEntry {H : Type} : Lit × DataW H → Nat
  | (.string bytes, d) => bytes.length + uptoBulk d + 1
  | (_, d) => uptoBulk d + 1
 end
def uptoSmall : (H : Type) → List (DataW H) → Bool := fun _ ds => decide (uptoBulkAll ds ≤ 1048576)
def OpenSpec.upto (s : _root_.Go.ChangeSpec) : _root_.Go.OpenSpec := { _root_.Go.OpenSpec.ofChange s with cond := some uptoSmall }

/-- 'picketlaw3.RingLast', WHERE WHAT IT READS IS OF BULK AT MOST 1048576: true; the input reads as it did. -/
def ringLastUptoRow : OpenClaim := { program := "ytgifbceiaibejaa", sum := "0d6811337b8bf03c206b928e5c843b189c611e5cd8c2d8a39f761c3bbe3f59b8", func := "picket/picketlaw3.RingLast", spec := "ringLast", unfollowed := true, recurses := true, apart := false, narrowed := true }
def RingLastUptoSaid : Prop := ringLastUptoRow.holds Try.pinned (OpenSpec.upto ringLastSpec)

/-- 'picketlaw3.RingTops', WHERE WHAT IT READS IS OF BULK AT MOST 1048576: true; the input reads as it did. -/
def ringTopsUptoRow : OpenClaim := { program := "ytgifbceiaibejaa", sum := "0d6811337b8bf03c206b928e5c843b189c611e5cd8c2d8a39f761c3bbe3f59b8", func := "picket/picketlaw3.RingTops", spec := "ringTops", unfollowed := true, recurses := true, apart := false, narrowed := true }
def RingTopsUptoSaid : Prop := ringTopsUptoRow.holds Try.pinned (OpenSpec.upto ringTopsSpec)

/-- 'picketlaw3.RingPieces', WHERE WHAT IT READS IS OF BULK AT MOST 1048576: true; the input reads as it did. -/
def ringPiecesUptoRow : OpenClaim := { program := "ytgifbceiaibejaa", sum := "0d6811337b8bf03c206b928e5c843b189c611e5cd8c2d8a39f761c3bbe3f59b8", func := "picket/picketlaw3.RingPieces", spec := "ringPieces", unfollowed := true, recurses := true, apart := false, narrowed := true }
def RingPiecesUptoSaid : Prop := ringPiecesUptoRow.holds Try.pinned (OpenSpec.upto ringPiecesSpec)

/-- 'picketlaw3.RingCounts', WHERE WHAT IT READS IS OF BULK AT MOST 1048576: true; the input reads as it did. -/
def ringCountsUptoRow : OpenClaim := { program := "ytgifbceiaibejaa", sum := "0d6811337b8bf03c206b928e5c843b189c611e5cd8c2d8a39f761c3bbe3f59b8", func := "picket/picketlaw3.RingCounts", spec := "ringCounts", unfollowed := true, recurses := true, apart := false, narrowed := true }
def RingCountsUptoSaid : Prop := ringCountsUptoRow.holds Try.pinned (OpenSpec.upto ringCountsSpec)

/-- 'picketlaw3.RingUps', WHERE WHAT IT READS IS OF BULK AT MOST 1048576: true; the input reads as it did. -/
def ringUpsUptoRow : OpenClaim := { program := "ytgifbceiaibejaa", sum := "0d6811337b8bf03c206b928e5c843b189c611e5cd8c2d8a39f761c3bbe3f59b8", func := "picket/picketlaw3.RingUps", spec := "ringUps", unfollowed := true, recurses := true, apart := false, narrowed := true }
def RingUpsUptoSaid : Prop := ringUpsUptoRow.holds Try.pinned (OpenSpec.upto ringUpsSpec)

/-- 'picketlaw3.RingPlays', WHERE WHAT IT READS IS OF BULK AT MOST 1048576: true; the input reads as it did. -/
def ringPlaysUptoRow : OpenClaim := { program := "ytgifbceiaibejaa", sum := "0d6811337b8bf03c206b928e5c843b189c611e5cd8c2d8a39f761c3bbe3f59b8", func := "picket/picketlaw3.RingPlays", spec := "ringPlays", unfollowed := true, recurses := true, apart := false, narrowed := true }
def RingPlaysUptoSaid : Prop := ringPlaysUptoRow.holds Try.pinned (OpenSpec.upto ringPlaysSpec)

/-- 'picketlaw3.RingNone', WHERE WHAT IT READS IS OF BULK AT MOST 1048576: true; the input reads as it did. -/
def ringNoneUptoRow : OpenClaim := { program := "ytgifbceiaibejaa", sum := "0d6811337b8bf03c206b928e5c843b189c611e5cd8c2d8a39f761c3bbe3f59b8", func := "picket/picketlaw3.RingNone", spec := "ringNone", unfollowed := true, recurses := true, apart := false, narrowed := true }
def RingNoneUptoSaid : Prop := ringNoneUptoRow.holds Try.pinned (OpenSpec.upto ringNoneSpec)

end Rows
end Go.Proofs.Ytgifbceiaibejaa

/- Ytbgifokhlbaapaa: the law ModePlays returns true for every input, and its arguments read as they did: no condition. -/
import Derived.Test.YtbgifokhlbaapaaRows
import Derived.Test.YtbgifokhlbaapaaSxV
import Derived.Test.YtbgifokhlbaapaaSmMode
import Derived.HandedShaped
namespace Go.Proofs.Ytbgifokhlbaapaa
open Go.ChangeShapes Go.WideShapes Go.ChangeAt Go.RowKit Sx
set_option maxRecDepth 100000
set_option linter.unusedVariables false
set_option linter.unusedSimpArgs false
set_option maxHeartbeats 4000000

@[reducible] def OpT : Ty := .prod (.int .i64) (.prod (.int .i64) (.prod (.int .i64) (.prod (.int .i64) .bool)))
abbrev XP := Int × List (den OpT) × Int × Int × Bool × Int × Int × Int
def sh13 : XP → St := fun x => match x with
  | (calm, l, i, at_, rested, now, cal, st) => ⟨setL (rep .bad 136) [(1, .view [] OpT l), (2, .int .i64 at_), (3, .bool rested), (9, .ptr 0 0), (12, .ptr 1 0), (13, .int .i64 i)],
      [.var [.int .i64 now, .int .i64 calm, .int .i64 cal, .int .i64 st], .var [.int .i64 calm, .int .i64 now, .int .i64 cal, .int .i64 st]], [], [0, 1]⟩
def nx13 (σ : St) : XP := (cI σ 0 1, gV OpT σ 1, gI σ 13, gI σ 2, gB σ 3, cI σ 0 0, cI σ 0 2, cI σ 0 3)
def D13 : XP → LEnds XP := fun _ => ⟨[(0, fun _ => True)], fun _ => False⟩
def Pre13 : XP → Prop := fun x => match x with | (calm, l, i, _, _, now, cal, st) => 1 ≤ calm ∧ lenI l ≤ 300 ∧ i = 0 ∧ now = 0 ∧ cal = 0 ∧ st = 0
noncomputable def S13 : Summ := summN sh13 (fun _ => sh13) nx13 Pre13 D13
noncomputable def fns6 : Fns := (6, Try.f6, [(13, S13)]) :: fns
abbrev nt (l : List (den OpT)) (i : Int) : den OpT := nth OpT l i
theorem body13 (Inv : XP → Prop) (meas : XP → Nat) (n : Nat) (D : LEnds XP) (calm : Int) (l : List (den OpT)) (i at_ : Int) (rested : Bool) (now cal st : Int) : awp tab fs3 (acall tab fs3 specs3 fns 100 20) [] 100 (loopAt Try.f6 13) (bodyN sh13 (fun _ => sh13) nx13 Inv meas n D) (sh13 (calm, l, i, at_, rested, now, cal, st)) =
  (ifB (ltB i (lenI l)) (need (inI i (lenI l)) (need (inI i (lenI l)) (eqI at_ at_ (need (AV.view [] OpT l = AV.view [] OpT l) (eqI i i (need (inI i (lenI l)) (need
    (AV.vptr [] [AV.int IntKind.i64 (nt l i).fst, AV.int IntKind.i64 (nt l i).snd.fst, AV.int IntKind.i64 (nt l i).snd.snd.fst, AV.int IntKind.i64 (nt l i).snd.snd.snd.fst,
    AV.bool (nt l i).snd.snd.snd.snd] = AV.vptr [] [AV.int IntKind.i64 (nt l i).fst, AV.int IntKind.i64 (nt l i).snd.fst, AV.int IntKind.i64 (nt l i).snd.snd.fst, AV.int
    IntKind.i64 (nt l i).snd.snd.snd.fst, AV.bool (nt l i).snd.snd.snd.snd]) (need (AV.vptr [] [AV.int IntKind.i64 (nt l i).snd.fst, AV.int IntKind.i64 (nt l i).snd.snd.fst,
    AV.int IntKind.i64 (nt l i).snd.snd.snd.fst, AV.bool (nt l i).snd.snd.snd.snd] = AV.vptr [] [AV.int IntKind.i64 (nt l i).snd.fst, AV.int IntKind.i64 (nt l i).snd.snd.fst,
    AV.int IntKind.i64 (nt l i).snd.snd.snd.fst, AV.bool (nt l i).snd.snd.snd.snd]) (eqI (nt l i).snd.fst (nt l i).snd.fst (eqI (nt l i).snd.snd.fst (nt l i).snd.snd.fst
    (eqI (nt l i).snd.snd.snd.fst (nt l i).snd.snd.snd.fst (eqL (nt l i).snd.snd.snd.snd (nt l i).snd.snd.snd.snd (eqL rested rested (eqI at_ at_ (need (AV.view [] OpT
    l = AV.view [] OpT l) (eqI i i (need (inI i (lenI l)) (need (AV.vptr [] [AV.int IntKind.i64 (nt l i).fst, AV.int IntKind.i64 (nt l i).snd.fst, AV.int IntKind.i64
    (nt l i).snd.snd.fst, AV.int IntKind.i64 (nt l i).snd.snd.snd.fst, AV.bool (nt l i).snd.snd.snd.snd] = AV.vptr [] [AV.int IntKind.i64 (nt l i).fst, AV.int IntKind.i64
    (nt l i).snd.fst, AV.int IntKind.i64 (nt l i).snd.snd.fst, AV.int IntKind.i64 (nt l i).snd.snd.snd.fst, AV.bool (nt l i).snd.snd.snd.snd]) (need (AV.vptr [] [AV.int
    IntKind.i64 (nt l i).snd.fst, AV.int IntKind.i64 (nt l i).snd.snd.fst, AV.int IntKind.i64 (nt l i).snd.snd.snd.fst, AV.bool (nt l i).snd.snd.snd.snd] = AV.vptr []
    [AV.int IntKind.i64 (nt l i).snd.fst, AV.int IntKind.i64 (nt l i).snd.snd.fst, AV.int IntKind.i64 (nt l i).snd.snd.snd.fst, AV.bool (nt l i).snd.snd.snd.snd]) (eqI
    (nt l i).snd.fst (nt l i).snd.fst (eqI (nt l i).snd.snd.fst (nt l i).snd.snd.fst (eqI (nt l i).snd.snd.snd.fst (nt l i).snd.snd.snd.fst (eqL (nt l i).snd.snd.snd.snd
    (nt l i).snd.snd.snd.snd (eqL rested rested (need (AV.view [] OpT l = AV.view [] OpT l) (eqI i i (need (inI i (lenI l)) (need (AV.vptr [] [AV.int IntKind.i64 (nt
    l i).fst, AV.int IntKind.i64 (nt l i).snd.fst, AV.int IntKind.i64 (nt l i).snd.snd.fst, AV.int IntKind.i64 (nt l i).snd.snd.snd.fst, AV.bool (nt l i).snd.snd.snd.snd]
    = AV.vptr [] [AV.int IntKind.i64 (nt l i).fst, AV.int IntKind.i64 (nt l i).snd.fst, AV.int IntKind.i64 (nt l i).snd.snd.fst, AV.int IntKind.i64 (nt l i).snd.snd.snd.fst,
    AV.bool (nt l i).snd.snd.snd.snd]) (need (AV.vptr [] [AV.int IntKind.i64 (nt l i).snd.fst, AV.int IntKind.i64 (nt l i).snd.snd.fst, AV.int IntKind.i64 (nt l i).snd.snd.snd.fst,
    AV.bool (nt l i).snd.snd.snd.snd] = AV.vptr [] [AV.int IntKind.i64 (nt l i).snd.fst, AV.int IntKind.i64 (nt l i).snd.snd.fst, AV.int IntKind.i64 (nt l i).snd.snd.snd.fst,
    AV.bool (nt l i).snd.snd.snd.snd]) (eqI at_ at_ (need (AV.view [] OpT l = AV.view [] OpT l) (eqI i i (need (inI i (lenI l)) (need (AV.vptr [] [AV.int IntKind.i64
    (nt l i).fst, AV.int IntKind.i64 (nt l i).snd.fst, AV.int IntKind.i64 (nt l i).snd.snd.fst, AV.int IntKind.i64 (nt l i).snd.snd.snd.fst, AV.bool (nt l i).snd.snd.snd.snd]
    = AV.vptr [] [AV.int IntKind.i64 (nt l i).fst, AV.int IntKind.i64 (nt l i).snd.fst, AV.int IntKind.i64 (nt l i).snd.snd.fst, AV.int IntKind.i64 (nt l i).snd.snd.snd.fst,
    AV.bool (nt l i).snd.snd.snd.snd]) (need (AV.vptr [] [AV.int IntKind.i64 (nt l i).snd.fst, AV.int IntKind.i64 (nt l i).snd.snd.fst, AV.int IntKind.i64 (nt l i).snd.snd.snd.fst,
    AV.bool (nt l i).snd.snd.snd.snd] = AV.vptr [] [AV.int IntKind.i64 (nt l i).snd.fst, AV.int IntKind.i64 (nt l i).snd.snd.fst, AV.int IntKind.i64 (nt l i).snd.snd.snd.fst,
    AV.bool (nt l i).snd.snd.snd.snd]) (eqI (nt l i).snd.fst (nt l i).snd.fst (eqI (nt l i).snd.snd.fst (nt l i).snd.snd.fst (eqI (nt l i).snd.snd.snd.fst (nt l i).snd.snd.snd.fst
    (eqL (nt l i).snd.snd.snd.snd (nt l i).snd.snd.snd.snd (eqL rested rested (need (AV.view [] OpT l = AV.view [] OpT l) (eqI i i (need (inI i (lenI l)) (need (AV.vptr
    [] [AV.int IntKind.i64 (nt l i).fst, AV.int IntKind.i64 (nt l i).snd.fst, AV.int IntKind.i64 (nt l i).snd.snd.fst, AV.int IntKind.i64 (nt l i).snd.snd.snd.fst, AV.bool
    (nt l i).snd.snd.snd.snd] = AV.vptr [] [AV.int IntKind.i64 (nt l i).fst, AV.int IntKind.i64 (nt l i).snd.fst, AV.int IntKind.i64 (nt l i).snd.snd.fst, AV.int IntKind.i64
    (nt l i).snd.snd.snd.fst, AV.bool (nt l i).snd.snd.snd.snd]) (need (AV.vptr [] [AV.int IntKind.i64 (nt l i).snd.fst, AV.int IntKind.i64 (nt l i).snd.snd.fst, AV.int
    IntKind.i64 (nt l i).snd.snd.snd.fst, AV.bool (nt l i).snd.snd.snd.snd] = AV.vptr [] [AV.int IntKind.i64 (nt l i).snd.fst, AV.int IntKind.i64 (nt l i).snd.snd.fst,
    AV.int IntKind.i64 (nt l i).snd.snd.snd.fst, AV.bool (nt l i).snd.snd.snd.snd]) (eqI at_ at_ (need (AV.view [] OpT l = AV.view [] OpT l) (eqI i i (need (inI i (lenI
    l)) (need (AV.vptr [] [AV.int IntKind.i64 (nt l i).fst, AV.int IntKind.i64 (nt l i).snd.fst, AV.int IntKind.i64 (nt l i).snd.snd.fst, AV.int IntKind.i64 (nt l i).snd.snd.snd.fst,
    AV.bool (nt l i).snd.snd.snd.snd] = AV.vptr [] [AV.int IntKind.i64 (nt l i).fst, AV.int IntKind.i64 (nt l i).snd.fst, AV.int IntKind.i64 (nt l i).snd.snd.fst, AV.int
    IntKind.i64 (nt l i).snd.snd.snd.fst, AV.bool (nt l i).snd.snd.snd.snd]) (need (AV.vptr [] [AV.int IntKind.i64 (nt l i).snd.fst, AV.int IntKind.i64 (nt l i).snd.snd.fst,
    AV.int IntKind.i64 (nt l i).snd.snd.snd.fst, AV.bool (nt l i).snd.snd.snd.snd] = AV.vptr [] [AV.int IntKind.i64 (nt l i).snd.fst, AV.int IntKind.i64 (nt l i).snd.snd.fst,
    AV.int IntKind.i64 (nt l i).snd.snd.snd.fst, AV.bool (nt l i).snd.snd.snd.snd]) (eqL rested rested (need (AV.view [] OpT l = AV.view [] OpT l) (eqI i i (need (inI
    i (lenI l)) (need (AV.vptr [] [AV.int IntKind.i64 (nt l i).fst, AV.int IntKind.i64 (nt l i).snd.fst, AV.int IntKind.i64 (nt l i).snd.snd.fst, AV.int IntKind.i64
    (nt l i).snd.snd.snd.fst, AV.bool (nt l i).snd.snd.snd.snd] = AV.vptr [] [AV.int IntKind.i64 (nt l i).fst, AV.int IntKind.i64 (nt l i).snd.fst, AV.int IntKind.i64
    (nt l i).snd.snd.fst, AV.int IntKind.i64 (nt l i).snd.snd.snd.fst, AV.bool (nt l i).snd.snd.snd.snd]) (need (AV.vptr [] [AV.int IntKind.i64 (nt l i).snd.fst, AV.int
    IntKind.i64 (nt l i).snd.snd.fst, AV.int IntKind.i64 (nt l i).snd.snd.snd.fst, AV.bool (nt l i).snd.snd.snd.snd] = AV.vptr [] [AV.int IntKind.i64 (nt l i).snd.fst,
    AV.int IntKind.i64 (nt l i).snd.snd.fst, AV.int IntKind.i64 (nt l i).snd.snd.snd.fst, AV.bool (nt l i).snd.snd.snd.snd]) (need (AV.view [] OpT l = AV.view [] OpT
    l) (eqI i i (need (inI i (lenI l)) (need (AV.vptr [] [AV.int IntKind.i64 (nt l i).fst, AV.int IntKind.i64 (nt l i).snd.fst, AV.int IntKind.i64 (nt l i).snd.snd.fst,
    AV.int IntKind.i64 (nt l i).snd.snd.snd.fst, AV.bool (nt l i).snd.snd.snd.snd] = AV.vptr [] [AV.int IntKind.i64 (nt l i).fst, AV.int IntKind.i64 (nt l i).snd.fst,
    AV.int IntKind.i64 (nt l i).snd.snd.fst, AV.int IntKind.i64 (nt l i).snd.snd.snd.fst, AV.bool (nt l i).snd.snd.snd.snd]) (need (AV.vptr [] [AV.int IntKind.i64 (nt
    l i).snd.fst, AV.int IntKind.i64 (nt l i).snd.snd.fst, AV.int IntKind.i64 (nt l i).snd.snd.snd.fst, AV.bool (nt l i).snd.snd.snd.snd] = AV.vptr [] [AV.int IntKind.i64
    (nt l i).snd.fst, AV.int IntKind.i64 (nt l i).snd.snd.fst, AV.int IntKind.i64 (nt l i).snd.snd.snd.fst, AV.bool (nt l i).snd.snd.snd.snd]) (eqL (notB (eqB (nextF
    at_ (nt l i).snd.fst (nt l i).snd.snd.fst (nt l i).snd.snd.snd.fst (nt l i).snd.snd.snd.snd rested) (nextF at_ (nt l i).snd.fst (nt l i).snd.snd.fst (nt l i).snd.snd.snd.fst
    (nt l i).snd.snd.snd.snd rested))) (notB (eqB (nextF at_ (nt l i).snd.fst (nt l i).snd.snd.fst (nt l i).snd.snd.snd.fst (nt l i).snd.snd.snd.snd rested) (nextF at_
    (nt l i).snd.fst (nt l i).snd.snd.fst (nt l i).snd.snd.snd.fst (nt l i).snd.snd.snd.snd rested))) (ifB (notB (eqB (nextF at_ (nt l i).snd.fst (nt l i).snd.snd.fst
    (nt l i).snd.snd.snd.fst (nt l i).snd.snd.snd.snd rested) (nextF at_ (nt l i).snd.fst (nt l i).snd.snd.fst (nt l i).snd.snd.snd.fst (nt l i).snd.snd.snd.snd rested)))
    (eqD l l (eqI at_ at_ (eqL rested rested (eqI i i (eqI now now (eqI calm calm (eqI cal cal (eqI st st (eqI calm calm (eqI now now (eqI cal cal (eqI st st (D.2 (calm,
    l, i, at_, rested, now, cal, st)))))))))))))) (need (inI i (lenI l)) (ifB (eqB (nt l i).fst 2) (need (nzW calm) (ifB (notB (eqB now 3)) (ifB (notB (eqB now 3)) (eqI
    now now (need (nzW calm) (ifB (notB (eqB now now)) (eqI now now (eqL (notB (eqB now now)) (notB (eqB now now)) (eqL (notB (eqB now now)) true (need (eqT true true)
    (eqI now now (eqL (notB (eqB now now)) (notB (eqB now now)) (need (eqT true true) (eqL true true (eqL true true (need (eqT true true) (eqI now now (eqL (notB (eqB
    now now)) (notB (eqB now now)) (need (eqT true true) (eqL true true (need (eqT true true) (eqL true true (eqD l l (eqI at_ at_ (eqL rested rested (eqI i i (eqI now
    now (eqI calm calm (eqI cal cal (eqI st st (eqI calm calm (eqI now now (eqI cal cal (eqI st st (D.2 (calm, l, i, at_, rested, now, cal, st))))))))))))))))))))))))))))))
    (eqI now now (eqL (notB (eqB now now)) (notB (eqB now now)) (eqL (notB (eqB now now)) false (eqI cal cal (need (nzW calm) (ifB (notB (eqB cal cal)) (eqI now now
    (eqL (notB (eqB now now)) (notB (eqB now now)) (eqI cal cal (eqL (notB (eqB cal cal)) (notB (eqB cal cal)) (eqL (notB (eqB cal cal)) (notB (eqB cal cal)) (eqL (notB
    (eqB cal cal)) true (need (eqT true true) (eqI now now (eqL (notB (eqB now now)) (notB (eqB now now)) (eqI cal cal (eqL (notB (eqB cal cal)) (notB (eqB cal cal))
    (eqL (notB (eqB cal cal)) (notB (eqB cal cal)) (need (eqT true true) (eqL true true (eqD l l (eqI at_ at_ (eqL rested rested (eqI i i (eqI now now (eqI calm calm
    (eqI cal cal (eqI st st (eqI calm calm (eqI now now (eqI cal cal (eqI st st (D.2 (calm, l, i, at_, rested, now, cal, st)))))))))))))))))))))))))))) (eqI now now
    (eqL (notB (eqB now now)) (notB (eqB now now)) (eqI cal cal (eqL (notB (eqB cal cal)) (notB (eqB cal cal)) (eqL (notB (eqB cal cal)) (notB (eqB cal cal)) (eqL (notB
    (eqB cal cal)) false (eqI st st (need (nzW calm) (eqI now now (eqL (notB (eqB now now)) (notB (eqB now now)) (eqI cal cal (eqL (notB (eqB cal cal)) (notB (eqB cal
    cal)) (eqL (notB (eqB cal cal)) (notB (eqB cal cal)) (eqI st st (eqL (notB (eqB st st)) (notB (eqB st st)) (eqL (notB (eqB st st)) (notB (eqB st st)) (ifB (notB
    (eqB st st)) (eqD l l (eqI at_ at_ (eqL rested rested (eqI i i (eqI now now (eqI calm calm (eqI cal cal (eqI st st (eqI calm calm (eqI now now (eqI cal cal (eqI
    st st (D.2 (calm, l, i, at_, rested, now, cal, st)))))))))))))) (eqD l l (eqI at_ at_ (eqL rested rested (eqI (addW IntKind.i64 i 1) (addW IntKind.i64 i 1) (eqI
    now now (eqI calm calm (eqI cal cal (eqI st st (eqI calm calm (eqI now now (eqI cal cal (eqI st st (Inv (calm, l, addW IntKind.i64 i 1, at_, rested, now, cal, st)
    ∧ meas (calm, l, addW IntKind.i64 i 1, at_, rested, now, cal, st) < n))))))))))))))))))))))))))))))))))))))) (eqD l l (eqI at_ at_ (eqL rested rested (eqI i i (eqI
    now now (eqI calm calm (eqI cal cal (eqI st st (eqI calm calm (eqI 1 now (eqI 0 cal (eqI st st (D.2 (calm, l, i, at_, rested, now, cal, st))))))))))))))) (ifB (notB
    (eqB now 3)) (eqD l l (eqI at_ at_ (eqL rested rested (eqI i i (eqI 1 1 (eqI calm calm (eqI 0 0 (eqI st st (eqI calm calm (eqI now 1 (eqI cal 0 (eqI st st (D.2 (calm,
    l, i, at_, rested, 1, 0, st)))))))))))))) (eqI 1 1 (need (nzW calm) (eqI 1 1 (eqL false false (eqL false false (eqI 0 0 (need (nzW calm) (eqI 1 1 (eqL false false
    (eqI 0 0 (eqL false false (eqL false false (eqL false false (eqI st st (need (nzW calm) (eqI 1 1 (eqL false false (eqI 0 0 (eqL false false (eqL false false (eqI
    st st (eqL (notB (eqB st st)) (notB (eqB st st)) (eqL (notB (eqB st st)) (notB (eqB st st)) (ifB (notB (eqB st st)) (eqD l l (eqI at_ at_ (eqL rested rested (eqI
    i i (eqI 1 1 (eqI calm calm (eqI 0 0 (eqI st st (eqI calm calm (eqI 1 1 (eqI 0 0 (eqI st st (D.2 (calm, l, i, at_, rested, 1, 0, st)))))))))))))) (eqD l l (eqI at_
    at_ (eqL rested rested (eqI (addW IntKind.i64 i 1) (addW IntKind.i64 i 1) (eqI 1 1 (eqI calm calm (eqI 0 0 (eqI st st (eqI calm calm (eqI 1 1 (eqI 0 0 (eqI st st
    (Inv (calm, l, addW IntKind.i64 i 1, at_, rested, 1, 0, st) ∧ meas (calm, l, addW IntKind.i64 i 1, at_, rested, 1, 0, st) < n))))))))))))))))))))))))))))))))))))))))
    (need (inI i (lenI l)) (need (inI i (lenI l)) (need (AV.view [] OpT l = AV.view [] OpT l) (eqI i i (need (inI i (lenI l)) (need (AV.vptr [] [AV.int IntKind.i64 (nt
    l i).fst, AV.int IntKind.i64 (nt l i).snd.fst, AV.int IntKind.i64 (nt l i).snd.snd.fst, AV.int IntKind.i64 (nt l i).snd.snd.snd.fst, AV.bool (nt l i).snd.snd.snd.snd]
    = AV.vptr [] [AV.int IntKind.i64 (nt l i).fst, AV.int IntKind.i64 (nt l i).snd.fst, AV.int IntKind.i64 (nt l i).snd.snd.fst, AV.int IntKind.i64 (nt l i).snd.snd.snd.fst,
    AV.bool (nt l i).snd.snd.snd.snd]) (need (AV.vptr [] [AV.int IntKind.i64 (nt l i).snd.fst, AV.int IntKind.i64 (nt l i).snd.snd.fst, AV.int IntKind.i64 (nt l i).snd.snd.snd.fst,
    AV.bool (nt l i).snd.snd.snd.snd] = AV.vptr [] [AV.int IntKind.i64 (nt l i).snd.fst, AV.int IntKind.i64 (nt l i).snd.snd.fst, AV.int IntKind.i64 (nt l i).snd.snd.snd.fst,
    AV.bool (nt l i).snd.snd.snd.snd]) (eqI (nt l i).snd.fst (nt l i).snd.fst (eqI (nt l i).snd.snd.fst (nt l i).snd.snd.fst (eqI (nt l i).snd.snd.snd.fst (nt l i).snd.snd.snd.fst
    (eqL (nt l i).snd.snd.snd.snd (nt l i).snd.snd.snd.snd (need (AV.view [] OpT l = AV.view [] OpT l) (eqI i i (need (inI i (lenI l)) (need (AV.vptr [] [AV.int IntKind.i64
    (nt l i).fst, AV.int IntKind.i64 (nt l i).snd.fst, AV.int IntKind.i64 (nt l i).snd.snd.fst, AV.int IntKind.i64 (nt l i).snd.snd.snd.fst, AV.bool (nt l i).snd.snd.snd.snd]
    = AV.vptr [] [AV.int IntKind.i64 (nt l i).fst, AV.int IntKind.i64 (nt l i).snd.fst, AV.int IntKind.i64 (nt l i).snd.snd.fst, AV.int IntKind.i64 (nt l i).snd.snd.snd.fst,
    AV.bool (nt l i).snd.snd.snd.snd]) (need (AV.vptr [] [AV.int IntKind.i64 (nt l i).snd.fst, AV.int IntKind.i64 (nt l i).snd.snd.fst, AV.int IntKind.i64 (nt l i).snd.snd.snd.fst,
    AV.bool (nt l i).snd.snd.snd.snd] = AV.vptr [] [AV.int IntKind.i64 (nt l i).snd.fst, AV.int IntKind.i64 (nt l i).snd.snd.fst, AV.int IntKind.i64 (nt l i).snd.snd.snd.fst,
    AV.bool (nt l i).snd.snd.snd.snd]) (eqI (nt l i).snd.fst (nt l i).snd.fst (eqI (nt l i).snd.snd.fst (nt l i).snd.snd.fst (eqI (nt l i).snd.snd.snd.fst (nt l i).snd.snd.snd.fst
    (eqL (nt l i).snd.snd.snd.snd (nt l i).snd.snd.snd.snd (need (okC calm cal st) (need (AV.view [] OpT l = AV.view [] OpT l) (eqI i i (need (inI i (lenI l)) (need
    (AV.vptr [] [AV.int IntKind.i64 (nt l i).fst, AV.int IntKind.i64 (nt l i).snd.fst, AV.int IntKind.i64 (nt l i).snd.snd.fst, AV.int IntKind.i64 (nt l i).snd.snd.snd.fst,
    AV.bool (nt l i).snd.snd.snd.snd] = AV.vptr [] [AV.int IntKind.i64 (nt l i).fst, AV.int IntKind.i64 (nt l i).snd.fst, AV.int IntKind.i64 (nt l i).snd.snd.fst, AV.int
    IntKind.i64 (nt l i).snd.snd.snd.fst, AV.bool (nt l i).snd.snd.snd.snd]) (need (AV.vptr [] [AV.int IntKind.i64 (nt l i).snd.fst, AV.int IntKind.i64 (nt l i).snd.snd.fst,
    AV.int IntKind.i64 (nt l i).snd.snd.snd.fst, AV.bool (nt l i).snd.snd.snd.snd] = AV.vptr [] [AV.int IntKind.i64 (nt l i).snd.fst, AV.int IntKind.i64 (nt l i).snd.snd.fst,
    AV.int IntKind.i64 (nt l i).snd.snd.snd.fst, AV.bool (nt l i).snd.snd.snd.snd]) (need (AV.view [] OpT l = AV.view [] OpT l) (eqI i i (need (inI i (lenI l)) (need
    (AV.vptr [] [AV.int IntKind.i64 (nt l i).fst, AV.int IntKind.i64 (nt l i).snd.fst, AV.int IntKind.i64 (nt l i).snd.snd.fst, AV.int IntKind.i64 (nt l i).snd.snd.snd.fst,
    AV.bool (nt l i).snd.snd.snd.snd] = AV.vptr [] [AV.int IntKind.i64 (nt l i).fst, AV.int IntKind.i64 (nt l i).snd.fst, AV.int IntKind.i64 (nt l i).snd.snd.fst, AV.int
    IntKind.i64 (nt l i).snd.snd.snd.fst, AV.bool (nt l i).snd.snd.snd.snd]) (need (AV.vptr [] [AV.int IntKind.i64 (nt l i).snd.fst, AV.int IntKind.i64 (nt l i).snd.snd.fst,
    AV.int IntKind.i64 (nt l i).snd.snd.snd.fst, AV.bool (nt l i).snd.snd.snd.snd] = AV.vptr [] [AV.int IntKind.i64 (nt l i).snd.fst, AV.int IntKind.i64 (nt l i).snd.snd.fst,
    AV.int IntKind.i64 (nt l i).snd.snd.snd.fst, AV.bool (nt l i).snd.snd.snd.snd]) (eqI (nt l i).snd.fst (nt l i).snd.fst (eqI (nt l i).snd.snd.fst (nt l i).snd.snd.fst
    (eqI (nt l i).snd.snd.snd.fst (nt l i).snd.snd.snd.fst (eqL (nt l i).snd.snd.snd.snd (nt l i).snd.snd.snd.snd (need (AV.view [] OpT l = AV.view [] OpT l) (eqI i
    i (need (inI i (lenI l)) (need (AV.vptr [] [AV.int IntKind.i64 (nt l i).fst, AV.int IntKind.i64 (nt l i).snd.fst, AV.int IntKind.i64 (nt l i).snd.snd.fst, AV.int
    IntKind.i64 (nt l i).snd.snd.snd.fst, AV.bool (nt l i).snd.snd.snd.snd] = AV.vptr [] [AV.int IntKind.i64 (nt l i).fst, AV.int IntKind.i64 (nt l i).snd.fst, AV.int
    IntKind.i64 (nt l i).snd.snd.fst, AV.int IntKind.i64 (nt l i).snd.snd.snd.fst, AV.bool (nt l i).snd.snd.snd.snd]) (need (AV.vptr [] [AV.int IntKind.i64 (nt l i).snd.fst,
    AV.int IntKind.i64 (nt l i).snd.snd.fst, AV.int IntKind.i64 (nt l i).snd.snd.snd.fst, AV.bool (nt l i).snd.snd.snd.snd] = AV.vptr [] [AV.int IntKind.i64 (nt l i).snd.fst,
    AV.int IntKind.i64 (nt l i).snd.snd.fst, AV.int IntKind.i64 (nt l i).snd.snd.snd.fst, AV.bool (nt l i).snd.snd.snd.snd]) (need (AV.view [] OpT l = AV.view [] OpT
    l) (eqI i i (need (inI i (lenI l)) (need (AV.vptr [] [AV.int IntKind.i64 (nt l i).fst, AV.int IntKind.i64 (nt l i).snd.fst, AV.int IntKind.i64 (nt l i).snd.snd.fst,
    AV.int IntKind.i64 (nt l i).snd.snd.snd.fst, AV.bool (nt l i).snd.snd.snd.snd] = AV.vptr [] [AV.int IntKind.i64 (nt l i).fst, AV.int IntKind.i64 (nt l i).snd.fst,
    AV.int IntKind.i64 (nt l i).snd.snd.fst, AV.int IntKind.i64 (nt l i).snd.snd.snd.fst, AV.bool (nt l i).snd.snd.snd.snd]) (need (AV.vptr [] [AV.int IntKind.i64 (nt
    l i).snd.fst, AV.int IntKind.i64 (nt l i).snd.snd.fst, AV.int IntKind.i64 (nt l i).snd.snd.snd.fst, AV.bool (nt l i).snd.snd.snd.snd] = AV.vptr [] [AV.int IntKind.i64
    (nt l i).snd.fst, AV.int IntKind.i64 (nt l i).snd.snd.fst, AV.int IntKind.i64 (nt l i).snd.snd.snd.fst, AV.bool (nt l i).snd.snd.snd.snd]) (need (okC calm cal st)
    (need (AV.view [] OpT l = AV.view [] OpT l) (eqI i i (need (inI i (lenI l)) (need (AV.vptr [] [AV.int IntKind.i64 (nt l i).fst, AV.int IntKind.i64 (nt l i).snd.fst,
    AV.int IntKind.i64 (nt l i).snd.snd.fst, AV.int IntKind.i64 (nt l i).snd.snd.snd.fst, AV.bool (nt l i).snd.snd.snd.snd] = AV.vptr [] [AV.int IntKind.i64 (nt l i).fst,
    AV.int IntKind.i64 (nt l i).snd.fst, AV.int IntKind.i64 (nt l i).snd.snd.fst, AV.int IntKind.i64 (nt l i).snd.snd.snd.fst, AV.bool (nt l i).snd.snd.snd.snd]) (need
    (AV.vptr [] [AV.int IntKind.i64 (nt l i).snd.fst, AV.int IntKind.i64 (nt l i).snd.snd.fst, AV.int IntKind.i64 (nt l i).snd.snd.snd.fst, AV.bool (nt l i).snd.snd.snd.snd]
    = AV.vptr [] [AV.int IntKind.i64 (nt l i).snd.fst, AV.int IntKind.i64 (nt l i).snd.snd.fst, AV.int IntKind.i64 (nt l i).snd.snd.snd.fst, AV.bool (nt l i).snd.snd.snd.snd])
    (need (AV.view [] OpT l = AV.view [] OpT l) (eqI i i (need (inI i (lenI l)) (need (AV.vptr [] [AV.int IntKind.i64 (nt l i).fst, AV.int IntKind.i64 (nt l i).snd.fst,
    AV.int IntKind.i64 (nt l i).snd.snd.fst, AV.int IntKind.i64 (nt l i).snd.snd.snd.fst, AV.bool (nt l i).snd.snd.snd.snd] = AV.vptr [] [AV.int IntKind.i64 (nt l i).fst,
    AV.int IntKind.i64 (nt l i).snd.fst, AV.int IntKind.i64 (nt l i).snd.snd.fst, AV.int IntKind.i64 (nt l i).snd.snd.snd.fst, AV.bool (nt l i).snd.snd.snd.snd]) (need
    (AV.vptr [] [AV.int IntKind.i64 (nt l i).snd.fst, AV.int IntKind.i64 (nt l i).snd.snd.fst, AV.int IntKind.i64 (nt l i).snd.snd.snd.fst, AV.bool (nt l i).snd.snd.snd.snd]
    = AV.vptr [] [AV.int IntKind.i64 (nt l i).snd.fst, AV.int IntKind.i64 (nt l i).snd.snd.fst, AV.int IntKind.i64 (nt l i).snd.snd.snd.fst, AV.bool (nt l i).snd.snd.snd.snd])
    (eqL (notB (eqB (stepF now (nt l i).snd.fst (nt l i).snd.snd.fst (nt l i).snd.snd.snd.fst (nt l i).snd.snd.snd.snd calm cal) (stepF now (nt l i).snd.fst (nt l i).snd.snd.fst
    (nt l i).snd.snd.snd.fst (nt l i).snd.snd.snd.snd calm cal))) (notB (eqB (stepF now (nt l i).snd.fst (nt l i).snd.snd.fst (nt l i).snd.snd.snd.fst (nt l i).snd.snd.snd.snd
    calm cal) (stepF now (nt l i).snd.fst (nt l i).snd.snd.fst (nt l i).snd.snd.snd.fst (nt l i).snd.snd.snd.snd calm cal))) (ifB (notB (eqB (stepF now (nt l i).snd.fst
    (nt l i).snd.snd.fst (nt l i).snd.snd.snd.fst (nt l i).snd.snd.snd.snd calm cal) (stepF now (nt l i).snd.fst (nt l i).snd.snd.fst (nt l i).snd.snd.snd.fst (nt l
    i).snd.snd.snd.snd calm cal))) (eqD l l (eqI at_ at_ (eqL rested rested (eqI i i (eqI (stepF now (nt l i).snd.fst (nt l i).snd.snd.fst (nt l i).snd.snd.snd.fst (nt
    l i).snd.snd.snd.snd calm cal) (stepF now (nt l i).snd.fst (nt l i).snd.snd.fst (nt l i).snd.snd.snd.fst (nt l i).snd.snd.snd.snd calm cal) (eqI calm calm (eqI (calF
    now (nt l i).snd.fst (nt l i).snd.snd.fst (nt l i).snd.snd.snd.fst (nt l i).snd.snd.snd.snd calm cal) (calF now (nt l i).snd.fst (nt l i).snd.snd.fst (nt l i).snd.snd.snd.fst
    (nt l i).snd.snd.snd.snd calm cal) (eqI (upC st) (upC st) (eqI calm calm (eqI (stepF now (nt l i).snd.fst (nt l i).snd.snd.fst (nt l i).snd.snd.snd.fst (nt l i).snd.snd.snd.snd
    calm cal) (stepF now (nt l i).snd.fst (nt l i).snd.snd.fst (nt l i).snd.snd.snd.fst (nt l i).snd.snd.snd.snd calm cal) (eqI (calF now (nt l i).snd.fst (nt l i).snd.snd.fst
    (nt l i).snd.snd.snd.fst (nt l i).snd.snd.snd.snd calm cal) (calF now (nt l i).snd.fst (nt l i).snd.snd.fst (nt l i).snd.snd.snd.fst (nt l i).snd.snd.snd.snd calm
    cal) (eqI (upC st) (upC st) (D.2 (calm, l, i, at_, rested, stepF now (nt l i).snd.fst (nt l i).snd.snd.fst (nt l i).snd.snd.snd.fst (nt l i).snd.snd.snd.snd calm
    cal, calF now (nt l i).snd.fst (nt l i).snd.snd.fst (nt l i).snd.snd.snd.fst (nt l i).snd.snd.snd.snd calm cal, upC st)))))))))))))) (eqI (stepF now (nt l i).snd.fst
    (nt l i).snd.snd.fst (nt l i).snd.snd.snd.fst (nt l i).snd.snd.snd.snd calm cal) (stepF now (nt l i).snd.fst (nt l i).snd.snd.fst (nt l i).snd.snd.snd.fst (nt l
    i).snd.snd.snd.snd calm cal) (need (nzW calm) (ifB (notB (eqB (stepF now (nt l i).snd.fst (nt l i).snd.snd.fst (nt l i).snd.snd.snd.fst (nt l i).snd.snd.snd.snd
    calm cal) (stepF now (nt l i).snd.fst (nt l i).snd.snd.fst (nt l i).snd.snd.snd.fst (nt l i).snd.snd.snd.snd calm cal))) (eqI (stepF now (nt l i).snd.fst (nt l i).snd.snd.fst
    (nt l i).snd.snd.snd.fst (nt l i).snd.snd.snd.snd calm cal) (stepF now (nt l i).snd.fst (nt l i).snd.snd.fst (nt l i).snd.snd.snd.fst (nt l i).snd.snd.snd.snd calm
    cal) (eqL (notB (eqB (stepF now (nt l i).snd.fst (nt l i).snd.snd.fst (nt l i).snd.snd.snd.fst (nt l i).snd.snd.snd.snd calm cal) (stepF now (nt l i).snd.fst (nt
    l i).snd.snd.fst (nt l i).snd.snd.snd.fst (nt l i).snd.snd.snd.snd calm cal))) (notB (eqB (stepF now (nt l i).snd.fst (nt l i).snd.snd.fst (nt l i).snd.snd.snd.fst
    (nt l i).snd.snd.snd.snd calm cal) (stepF now (nt l i).snd.fst (nt l i).snd.snd.fst (nt l i).snd.snd.snd.fst (nt l i).snd.snd.snd.snd calm cal))) (eqL (notB (eqB
    (stepF now (nt l i).snd.fst (nt l i).snd.snd.fst (nt l i).snd.snd.snd.fst (nt l i).snd.snd.snd.snd calm cal) (stepF now (nt l i).snd.fst (nt l i).snd.snd.fst (nt
    l i).snd.snd.snd.fst (nt l i).snd.snd.snd.snd calm cal))) true (need (eqT true true) (eqI (stepF now (nt l i).snd.fst (nt l i).snd.snd.fst (nt l i).snd.snd.snd.fst
    (nt l i).snd.snd.snd.snd calm cal) (stepF now (nt l i).snd.fst (nt l i).snd.snd.fst (nt l i).snd.snd.snd.fst (nt l i).snd.snd.snd.snd calm cal) (eqL (notB (eqB (stepF
    now (nt l i).snd.fst (nt l i).snd.snd.fst (nt l i).snd.snd.snd.fst (nt l i).snd.snd.snd.snd calm cal) (stepF now (nt l i).snd.fst (nt l i).snd.snd.fst (nt l i).snd.snd.snd.fst
    (nt l i).snd.snd.snd.snd calm cal))) (notB (eqB (stepF now (nt l i).snd.fst (nt l i).snd.snd.fst (nt l i).snd.snd.snd.fst (nt l i).snd.snd.snd.snd calm cal) (stepF
    now (nt l i).snd.fst (nt l i).snd.snd.fst (nt l i).snd.snd.snd.fst (nt l i).snd.snd.snd.snd calm cal))) (need (eqT true true) (eqL true true (eqL true true (need
    (eqT true true) (eqI (stepF now (nt l i).snd.fst (nt l i).snd.snd.fst (nt l i).snd.snd.snd.fst (nt l i).snd.snd.snd.snd calm cal) (stepF now (nt l i).snd.fst (nt
    l i).snd.snd.fst (nt l i).snd.snd.snd.fst (nt l i).snd.snd.snd.snd calm cal) (eqL (notB (eqB (stepF now (nt l i).snd.fst (nt l i).snd.snd.fst (nt l i).snd.snd.snd.fst
    (nt l i).snd.snd.snd.snd calm cal) (stepF now (nt l i).snd.fst (nt l i).snd.snd.fst (nt l i).snd.snd.snd.fst (nt l i).snd.snd.snd.snd calm cal))) (notB (eqB (stepF
    now (nt l i).snd.fst (nt l i).snd.snd.fst (nt l i).snd.snd.snd.fst (nt l i).snd.snd.snd.snd calm cal) (stepF now (nt l i).snd.fst (nt l i).snd.snd.fst (nt l i).snd.snd.snd.fst
    (nt l i).snd.snd.snd.snd calm cal))) (need (eqT true true) (eqL true true (need (eqT true true) (eqL true true (eqD l l (eqI at_ at_ (eqL rested rested (eqI i i
    (eqI (stepF now (nt l i).snd.fst (nt l i).snd.snd.fst (nt l i).snd.snd.snd.fst (nt l i).snd.snd.snd.snd calm cal) (stepF now (nt l i).snd.fst (nt l i).snd.snd.fst
    (nt l i).snd.snd.snd.fst (nt l i).snd.snd.snd.snd calm cal) (eqI calm calm (eqI (calF now (nt l i).snd.fst (nt l i).snd.snd.fst (nt l i).snd.snd.snd.fst (nt l i).snd.snd.snd.snd
    calm cal) (calF now (nt l i).snd.fst (nt l i).snd.snd.fst (nt l i).snd.snd.snd.fst (nt l i).snd.snd.snd.snd calm cal) (eqI (upC st) (upC st) (eqI calm calm (eqI
    (stepF now (nt l i).snd.fst (nt l i).snd.snd.fst (nt l i).snd.snd.snd.fst (nt l i).snd.snd.snd.snd calm cal) (stepF now (nt l i).snd.fst (nt l i).snd.snd.fst (nt
    l i).snd.snd.snd.fst (nt l i).snd.snd.snd.snd calm cal) (eqI (calF now (nt l i).snd.fst (nt l i).snd.snd.fst (nt l i).snd.snd.snd.fst (nt l i).snd.snd.snd.snd calm
    cal) (calF now (nt l i).snd.fst (nt l i).snd.snd.fst (nt l i).snd.snd.snd.fst (nt l i).snd.snd.snd.snd calm cal) (eqI (upC st) (upC st) (D.2 (calm, l, i, at_, rested,
    stepF now (nt l i).snd.fst (nt l i).snd.snd.fst (nt l i).snd.snd.snd.fst (nt l i).snd.snd.snd.snd calm cal, calF now (nt l i).snd.fst (nt l i).snd.snd.fst (nt l
    i).snd.snd.snd.fst (nt l i).snd.snd.snd.snd calm cal, upC st)))))))))))))))))))))))))))))) (eqI (stepF now (nt l i).snd.fst (nt l i).snd.snd.fst (nt l i).snd.snd.snd.fst
    (nt l i).snd.snd.snd.snd calm cal) (stepF now (nt l i).snd.fst (nt l i).snd.snd.fst (nt l i).snd.snd.snd.fst (nt l i).snd.snd.snd.snd calm cal) (eqL (notB (eqB (stepF
    now (nt l i).snd.fst (nt l i).snd.snd.fst (nt l i).snd.snd.snd.fst (nt l i).snd.snd.snd.snd calm cal) (stepF now (nt l i).snd.fst (nt l i).snd.snd.fst (nt l i).snd.snd.snd.fst
    (nt l i).snd.snd.snd.snd calm cal))) (notB (eqB (stepF now (nt l i).snd.fst (nt l i).snd.snd.fst (nt l i).snd.snd.snd.fst (nt l i).snd.snd.snd.snd calm cal) (stepF
    now (nt l i).snd.fst (nt l i).snd.snd.fst (nt l i).snd.snd.snd.fst (nt l i).snd.snd.snd.snd calm cal))) (eqL (notB (eqB (stepF now (nt l i).snd.fst (nt l i).snd.snd.fst
    (nt l i).snd.snd.snd.fst (nt l i).snd.snd.snd.snd calm cal) (stepF now (nt l i).snd.fst (nt l i).snd.snd.fst (nt l i).snd.snd.snd.fst (nt l i).snd.snd.snd.snd calm
    cal))) false (eqI (calF now (nt l i).snd.fst (nt l i).snd.snd.fst (nt l i).snd.snd.snd.fst (nt l i).snd.snd.snd.snd calm cal) (calF now (nt l i).snd.fst (nt l i).snd.snd.fst
    (nt l i).snd.snd.snd.fst (nt l i).snd.snd.snd.snd calm cal) (need (nzW calm) (ifB (notB (eqB (calF now (nt l i).snd.fst (nt l i).snd.snd.fst (nt l i).snd.snd.snd.fst
    (nt l i).snd.snd.snd.snd calm cal) (calF now (nt l i).snd.fst (nt l i).snd.snd.fst (nt l i).snd.snd.snd.fst (nt l i).snd.snd.snd.snd calm cal))) (eqI (stepF now
    (nt l i).snd.fst (nt l i).snd.snd.fst (nt l i).snd.snd.snd.fst (nt l i).snd.snd.snd.snd calm cal) (stepF now (nt l i).snd.fst (nt l i).snd.snd.fst (nt l i).snd.snd.snd.fst
    (nt l i).snd.snd.snd.snd calm cal) (eqL (notB (eqB (stepF now (nt l i).snd.fst (nt l i).snd.snd.fst (nt l i).snd.snd.snd.fst (nt l i).snd.snd.snd.snd calm cal) (stepF
    now (nt l i).snd.fst (nt l i).snd.snd.fst (nt l i).snd.snd.snd.fst (nt l i).snd.snd.snd.snd calm cal))) (notB (eqB (stepF now (nt l i).snd.fst (nt l i).snd.snd.fst
    (nt l i).snd.snd.snd.fst (nt l i).snd.snd.snd.snd calm cal) (stepF now (nt l i).snd.fst (nt l i).snd.snd.fst (nt l i).snd.snd.snd.fst (nt l i).snd.snd.snd.snd calm
    cal))) (eqI (calF now (nt l i).snd.fst (nt l i).snd.snd.fst (nt l i).snd.snd.snd.fst (nt l i).snd.snd.snd.snd calm cal) (calF now (nt l i).snd.fst (nt l i).snd.snd.fst
    (nt l i).snd.snd.snd.fst (nt l i).snd.snd.snd.snd calm cal) (eqL (notB (eqB (calF now (nt l i).snd.fst (nt l i).snd.snd.fst (nt l i).snd.snd.snd.fst (nt l i).snd.snd.snd.snd
    calm cal) (calF now (nt l i).snd.fst (nt l i).snd.snd.fst (nt l i).snd.snd.snd.fst (nt l i).snd.snd.snd.snd calm cal))) (notB (eqB (calF now (nt l i).snd.fst (nt
    l i).snd.snd.fst (nt l i).snd.snd.snd.fst (nt l i).snd.snd.snd.snd calm cal) (calF now (nt l i).snd.fst (nt l i).snd.snd.fst (nt l i).snd.snd.snd.fst (nt l i).snd.snd.snd.snd
    calm cal))) (eqL (notB (eqB (calF now (nt l i).snd.fst (nt l i).snd.snd.fst (nt l i).snd.snd.snd.fst (nt l i).snd.snd.snd.snd calm cal) (calF now (nt l i).snd.fst
    (nt l i).snd.snd.fst (nt l i).snd.snd.snd.fst (nt l i).snd.snd.snd.snd calm cal))) (notB (eqB (calF now (nt l i).snd.fst (nt l i).snd.snd.fst (nt l i).snd.snd.snd.fst
    (nt l i).snd.snd.snd.snd calm cal) (calF now (nt l i).snd.fst (nt l i).snd.snd.fst (nt l i).snd.snd.snd.fst (nt l i).snd.snd.snd.snd calm cal))) (eqL (notB (eqB
    (calF now (nt l i).snd.fst (nt l i).snd.snd.fst (nt l i).snd.snd.snd.fst (nt l i).snd.snd.snd.snd calm cal) (calF now (nt l i).snd.fst (nt l i).snd.snd.fst (nt l
    i).snd.snd.snd.fst (nt l i).snd.snd.snd.snd calm cal))) true (need (eqT true true) (eqI (stepF now (nt l i).snd.fst (nt l i).snd.snd.fst (nt l i).snd.snd.snd.fst
    (nt l i).snd.snd.snd.snd calm cal) (stepF now (nt l i).snd.fst (nt l i).snd.snd.fst (nt l i).snd.snd.snd.fst (nt l i).snd.snd.snd.snd calm cal) (eqL (notB (eqB (stepF
    now (nt l i).snd.fst (nt l i).snd.snd.fst (nt l i).snd.snd.snd.fst (nt l i).snd.snd.snd.snd calm cal) (stepF now (nt l i).snd.fst (nt l i).snd.snd.fst (nt l i).snd.snd.snd.fst
    (nt l i).snd.snd.snd.snd calm cal))) (notB (eqB (stepF now (nt l i).snd.fst (nt l i).snd.snd.fst (nt l i).snd.snd.snd.fst (nt l i).snd.snd.snd.snd calm cal) (stepF
    now (nt l i).snd.fst (nt l i).snd.snd.fst (nt l i).snd.snd.snd.fst (nt l i).snd.snd.snd.snd calm cal))) (eqI (calF now (nt l i).snd.fst (nt l i).snd.snd.fst (nt
    l i).snd.snd.snd.fst (nt l i).snd.snd.snd.snd calm cal) (calF now (nt l i).snd.fst (nt l i).snd.snd.fst (nt l i).snd.snd.snd.fst (nt l i).snd.snd.snd.snd calm cal)
    (eqL (notB (eqB (calF now (nt l i).snd.fst (nt l i).snd.snd.fst (nt l i).snd.snd.snd.fst (nt l i).snd.snd.snd.snd calm cal) (calF now (nt l i).snd.fst (nt l i).snd.snd.fst
    (nt l i).snd.snd.snd.fst (nt l i).snd.snd.snd.snd calm cal))) (notB (eqB (calF now (nt l i).snd.fst (nt l i).snd.snd.fst (nt l i).snd.snd.snd.fst (nt l i).snd.snd.snd.snd
    calm cal) (calF now (nt l i).snd.fst (nt l i).snd.snd.fst (nt l i).snd.snd.snd.fst (nt l i).snd.snd.snd.snd calm cal))) (eqL (notB (eqB (calF now (nt l i).snd.fst
    (nt l i).snd.snd.fst (nt l i).snd.snd.snd.fst (nt l i).snd.snd.snd.snd calm cal) (calF now (nt l i).snd.fst (nt l i).snd.snd.fst (nt l i).snd.snd.snd.fst (nt l i).snd.snd.snd.snd
    calm cal))) (notB (eqB (calF now (nt l i).snd.fst (nt l i).snd.snd.fst (nt l i).snd.snd.snd.fst (nt l i).snd.snd.snd.snd calm cal) (calF now (nt l i).snd.fst (nt
    l i).snd.snd.fst (nt l i).snd.snd.snd.fst (nt l i).snd.snd.snd.snd calm cal))) (need (eqT true true) (eqL true true (eqD l l (eqI at_ at_ (eqL rested rested (eqI
    i i (eqI (stepF now (nt l i).snd.fst (nt l i).snd.snd.fst (nt l i).snd.snd.snd.fst (nt l i).snd.snd.snd.snd calm cal) (stepF now (nt l i).snd.fst (nt l i).snd.snd.fst
    (nt l i).snd.snd.snd.fst (nt l i).snd.snd.snd.snd calm cal) (eqI calm calm (eqI (calF now (nt l i).snd.fst (nt l i).snd.snd.fst (nt l i).snd.snd.snd.fst (nt l i).snd.snd.snd.snd
    calm cal) (calF now (nt l i).snd.fst (nt l i).snd.snd.fst (nt l i).snd.snd.snd.fst (nt l i).snd.snd.snd.snd calm cal) (eqI (upC st) (upC st) (eqI calm calm (eqI
    (stepF now (nt l i).snd.fst (nt l i).snd.snd.fst (nt l i).snd.snd.snd.fst (nt l i).snd.snd.snd.snd calm cal) (stepF now (nt l i).snd.fst (nt l i).snd.snd.fst (nt
    l i).snd.snd.snd.fst (nt l i).snd.snd.snd.snd calm cal) (eqI (calF now (nt l i).snd.fst (nt l i).snd.snd.fst (nt l i).snd.snd.snd.fst (nt l i).snd.snd.snd.snd calm
    cal) (calF now (nt l i).snd.fst (nt l i).snd.snd.fst (nt l i).snd.snd.snd.fst (nt l i).snd.snd.snd.snd calm cal) (eqI (upC st) (upC st) (D.2 (calm, l, i, at_, rested,
    stepF now (nt l i).snd.fst (nt l i).snd.snd.fst (nt l i).snd.snd.snd.fst (nt l i).snd.snd.snd.snd calm cal, calF now (nt l i).snd.fst (nt l i).snd.snd.fst (nt l
    i).snd.snd.snd.fst (nt l i).snd.snd.snd.snd calm cal, upC st)))))))))))))))))))))))))))) (eqI (stepF now (nt l i).snd.fst (nt l i).snd.snd.fst (nt l i).snd.snd.snd.fst
    (nt l i).snd.snd.snd.snd calm cal) (stepF now (nt l i).snd.fst (nt l i).snd.snd.fst (nt l i).snd.snd.snd.fst (nt l i).snd.snd.snd.snd calm cal) (eqL (notB (eqB (stepF
    now (nt l i).snd.fst (nt l i).snd.snd.fst (nt l i).snd.snd.snd.fst (nt l i).snd.snd.snd.snd calm cal) (stepF now (nt l i).snd.fst (nt l i).snd.snd.fst (nt l i).snd.snd.snd.fst
    (nt l i).snd.snd.snd.snd calm cal))) (notB (eqB (stepF now (nt l i).snd.fst (nt l i).snd.snd.fst (nt l i).snd.snd.snd.fst (nt l i).snd.snd.snd.snd calm cal) (stepF
    now (nt l i).snd.fst (nt l i).snd.snd.fst (nt l i).snd.snd.snd.fst (nt l i).snd.snd.snd.snd calm cal))) (eqI (calF now (nt l i).snd.fst (nt l i).snd.snd.fst (nt
    l i).snd.snd.snd.fst (nt l i).snd.snd.snd.snd calm cal) (calF now (nt l i).snd.fst (nt l i).snd.snd.fst (nt l i).snd.snd.snd.fst (nt l i).snd.snd.snd.snd calm cal)
    (eqL (notB (eqB (calF now (nt l i).snd.fst (nt l i).snd.snd.fst (nt l i).snd.snd.snd.fst (nt l i).snd.snd.snd.snd calm cal) (calF now (nt l i).snd.fst (nt l i).snd.snd.fst
    (nt l i).snd.snd.snd.fst (nt l i).snd.snd.snd.snd calm cal))) (notB (eqB (calF now (nt l i).snd.fst (nt l i).snd.snd.fst (nt l i).snd.snd.snd.fst (nt l i).snd.snd.snd.snd
    calm cal) (calF now (nt l i).snd.fst (nt l i).snd.snd.fst (nt l i).snd.snd.snd.fst (nt l i).snd.snd.snd.snd calm cal))) (eqL (notB (eqB (calF now (nt l i).snd.fst
    (nt l i).snd.snd.fst (nt l i).snd.snd.snd.fst (nt l i).snd.snd.snd.snd calm cal) (calF now (nt l i).snd.fst (nt l i).snd.snd.fst (nt l i).snd.snd.snd.fst (nt l i).snd.snd.snd.snd
    calm cal))) (notB (eqB (calF now (nt l i).snd.fst (nt l i).snd.snd.fst (nt l i).snd.snd.snd.fst (nt l i).snd.snd.snd.snd calm cal) (calF now (nt l i).snd.fst (nt
    l i).snd.snd.fst (nt l i).snd.snd.snd.fst (nt l i).snd.snd.snd.snd calm cal))) (eqL (notB (eqB (calF now (nt l i).snd.fst (nt l i).snd.snd.fst (nt l i).snd.snd.snd.fst
    (nt l i).snd.snd.snd.snd calm cal) (calF now (nt l i).snd.fst (nt l i).snd.snd.fst (nt l i).snd.snd.snd.fst (nt l i).snd.snd.snd.snd calm cal))) false (eqI (upC
    st) (upC st) (need (nzW calm) (eqI (stepF now (nt l i).snd.fst (nt l i).snd.snd.fst (nt l i).snd.snd.snd.fst (nt l i).snd.snd.snd.snd calm cal) (stepF now (nt l
    i).snd.fst (nt l i).snd.snd.fst (nt l i).snd.snd.snd.fst (nt l i).snd.snd.snd.snd calm cal) (eqL (notB (eqB (stepF now (nt l i).snd.fst (nt l i).snd.snd.fst (nt
    l i).snd.snd.snd.fst (nt l i).snd.snd.snd.snd calm cal) (stepF now (nt l i).snd.fst (nt l i).snd.snd.fst (nt l i).snd.snd.snd.fst (nt l i).snd.snd.snd.snd calm cal)))
    (notB (eqB (stepF now (nt l i).snd.fst (nt l i).snd.snd.fst (nt l i).snd.snd.snd.fst (nt l i).snd.snd.snd.snd calm cal) (stepF now (nt l i).snd.fst (nt l i).snd.snd.fst
    (nt l i).snd.snd.snd.fst (nt l i).snd.snd.snd.snd calm cal))) (eqI (calF now (nt l i).snd.fst (nt l i).snd.snd.fst (nt l i).snd.snd.snd.fst (nt l i).snd.snd.snd.snd
    calm cal) (calF now (nt l i).snd.fst (nt l i).snd.snd.fst (nt l i).snd.snd.snd.fst (nt l i).snd.snd.snd.snd calm cal) (eqL (notB (eqB (calF now (nt l i).snd.fst
    (nt l i).snd.snd.fst (nt l i).snd.snd.snd.fst (nt l i).snd.snd.snd.snd calm cal) (calF now (nt l i).snd.fst (nt l i).snd.snd.fst (nt l i).snd.snd.snd.fst (nt l i).snd.snd.snd.snd
    calm cal))) (notB (eqB (calF now (nt l i).snd.fst (nt l i).snd.snd.fst (nt l i).snd.snd.snd.fst (nt l i).snd.snd.snd.snd calm cal) (calF now (nt l i).snd.fst (nt
    l i).snd.snd.fst (nt l i).snd.snd.snd.fst (nt l i).snd.snd.snd.snd calm cal))) (eqL (notB (eqB (calF now (nt l i).snd.fst (nt l i).snd.snd.fst (nt l i).snd.snd.snd.fst
    (nt l i).snd.snd.snd.snd calm cal) (calF now (nt l i).snd.fst (nt l i).snd.snd.fst (nt l i).snd.snd.snd.fst (nt l i).snd.snd.snd.snd calm cal))) (notB (eqB (calF
    now (nt l i).snd.fst (nt l i).snd.snd.fst (nt l i).snd.snd.snd.fst (nt l i).snd.snd.snd.snd calm cal) (calF now (nt l i).snd.fst (nt l i).snd.snd.fst (nt l i).snd.snd.snd.fst
    (nt l i).snd.snd.snd.snd calm cal))) (eqI (upC st) (upC st) (eqL (notB (eqB (upC st) (upC st))) (notB (eqB (upC st) (upC st))) (eqL (notB (eqB (upC st) (upC st)))
    (notB (eqB (upC st) (upC st))) (ifB (notB (eqB (upC st) (upC st))) (eqD l l (eqI at_ at_ (eqL rested rested (eqI i i (eqI (stepF now (nt l i).snd.fst (nt l i).snd.snd.fst
    (nt l i).snd.snd.snd.fst (nt l i).snd.snd.snd.snd calm cal) (stepF now (nt l i).snd.fst (nt l i).snd.snd.fst (nt l i).snd.snd.snd.fst (nt l i).snd.snd.snd.snd calm
    cal) (eqI calm calm (eqI (calF now (nt l i).snd.fst (nt l i).snd.snd.fst (nt l i).snd.snd.snd.fst (nt l i).snd.snd.snd.snd calm cal) (calF now (nt l i).snd.fst (nt
    l i).snd.snd.fst (nt l i).snd.snd.snd.fst (nt l i).snd.snd.snd.snd calm cal) (eqI (upC st) (upC st) (eqI calm calm (eqI (stepF now (nt l i).snd.fst (nt l i).snd.snd.fst
    (nt l i).snd.snd.snd.fst (nt l i).snd.snd.snd.snd calm cal) (stepF now (nt l i).snd.fst (nt l i).snd.snd.fst (nt l i).snd.snd.snd.fst (nt l i).snd.snd.snd.snd calm
    cal) (eqI (calF now (nt l i).snd.fst (nt l i).snd.snd.fst (nt l i).snd.snd.snd.fst (nt l i).snd.snd.snd.snd calm cal) (calF now (nt l i).snd.fst (nt l i).snd.snd.fst
    (nt l i).snd.snd.snd.fst (nt l i).snd.snd.snd.snd calm cal) (eqI (upC st) (upC st) (D.2 (calm, l, i, at_, rested, stepF now (nt l i).snd.fst (nt l i).snd.snd.fst
    (nt l i).snd.snd.snd.fst (nt l i).snd.snd.snd.snd calm cal, calF now (nt l i).snd.fst (nt l i).snd.snd.fst (nt l i).snd.snd.snd.fst (nt l i).snd.snd.snd.snd calm
    cal, upC st)))))))))))))) (eqD l l (eqI at_ at_ (eqL rested rested (eqI (addW IntKind.i64 i 1) (addW IntKind.i64 i 1) (eqI (stepF now (nt l i).snd.fst (nt l i).snd.snd.fst
    (nt l i).snd.snd.snd.fst (nt l i).snd.snd.snd.snd calm cal) (stepF now (nt l i).snd.fst (nt l i).snd.snd.fst (nt l i).snd.snd.snd.fst (nt l i).snd.snd.snd.snd calm
    cal) (eqI calm calm (eqI (calF now (nt l i).snd.fst (nt l i).snd.snd.fst (nt l i).snd.snd.snd.fst (nt l i).snd.snd.snd.snd calm cal) (calF now (nt l i).snd.fst (nt
    l i).snd.snd.fst (nt l i).snd.snd.snd.fst (nt l i).snd.snd.snd.snd calm cal) (eqI (upC st) (upC st) (eqI calm calm (eqI (stepF now (nt l i).snd.fst (nt l i).snd.snd.fst
    (nt l i).snd.snd.snd.fst (nt l i).snd.snd.snd.snd calm cal) (stepF now (nt l i).snd.fst (nt l i).snd.snd.fst (nt l i).snd.snd.snd.fst (nt l i).snd.snd.snd.snd calm
    cal) (eqI (calF now (nt l i).snd.fst (nt l i).snd.snd.fst (nt l i).snd.snd.snd.fst (nt l i).snd.snd.snd.snd calm cal) (calF now (nt l i).snd.fst (nt l i).snd.snd.fst
    (nt l i).snd.snd.snd.fst (nt l i).snd.snd.snd.snd calm cal) (eqI (upC st) (upC st) (Inv (calm, l, addW IntKind.i64 i 1, at_, rested, stepF now (nt l i).snd.fst (nt
    l i).snd.snd.fst (nt l i).snd.snd.snd.fst (nt l i).snd.snd.snd.snd calm cal, calF now (nt l i).snd.fst (nt l i).snd.snd.fst (nt l i).snd.snd.snd.fst (nt l i).snd.snd.snd.snd
    calm cal, upC st) ∧ meas (calm, l, addW IntKind.i64 i 1, at_, rested, stepF now (nt l i).snd.fst (nt l i).snd.snd.fst (nt l i).snd.snd.snd.fst (nt l i).snd.snd.snd.snd
    calm cal, calF now (nt l i).snd.fst (nt l i).snd.snd.fst (nt l i).snd.snd.snd.fst (nt l i).snd.snd.snd.snd calm cal, upC st) < n)))))))))))))))))))))))))))))))))))))))))))))))))))))))))))))))))))))))))))))))))))))))))))))))))))))))))))))))))))))))))))))))))))))))))))))))))))))))))))))))))))
    (eqD l l (eqI at_ at_ (eqL rested rested (eqI i i (eqI now now (eqI calm calm (eqI cal cal (eqI st st (eqI calm calm (eqI now now (eqI cal cal (eqI st st ((List.brecOn.go
    (motive := fun x => Nat → XP → Prop) D.exits elook._f).1 0 (calm, l, i, at_, rested, now, cal, st))))))))))))))) := by kernel_rfl
theorem ModePlays_eq (calm : Int) (l : List (den OpT)) (at_ : Int) (rested : Bool) : acall tab fs3 specs3 fns6 100 20 6 [.int .i64 calm, .view [] OpT l, .int .i64 at_, .bool rested] [] (fun o _ _ _ => o = .ret (.bool true)) =
  (ifB (ltB 300 (lenI l)) (AOut.ret (AV.bool true) = AOut.ret (AV.bool true)) (ifB (selB (ltB calm 1) true (ltB 1000 calm)) (ifB (selB (selB (notB (beqB false (selB
    (leB 1 calm) (leB calm 1000) false))) true (notB (beqB false (selB (leB 1 calm) (leB calm 1000) false)))) true (selB (notB (selB (leB 1 calm) (leB calm 1000) false))
    false false)) (AOut.ret (AV.bool false) = AOut.ret (AV.bool true)) (ifB (notB (selB (leB 1 calm) (leB calm 1000) false)) (AOut.ret (AV.bool true) = AOut.ret (AV.bool
    true)) (eqD l l (eqI at_ at_ (eqL rested rested (need (AV.nilp = AV.ptr 0 0) False)))))) (ifB (selB (selB (notB (beqB true (selB (leB 1 calm) (leB calm 1000) false)))
    true (notB (beqB true (selB (leB 1 calm) (leB calm 1000) false)))) true (selB (notB (selB (leB 1 calm) (leB calm 1000) false)) true false)) (AOut.ret (AV.bool false)
    = AOut.ret (AV.bool true)) (ifB (notB (selB (leB 1 calm) (leB calm 1000) false)) (AOut.ret (AV.bool true) = AOut.ret (AV.bool true)) (eqD l l (eqI at_ at_ (eqL rested
    rested (eqI 0 0 (eqI 0 0 (eqI calm calm (eqI 0 0 (eqI 0 0 (eqI calm calm (eqI 0 0 (eqI 0 0 (eqI 0 0 ((1 ≤ calm ∧ lenI l ≤ 300 ∧ (0 : Int) = 0 ∧ (0 : Int) = 0 ∧ (0
    : Int) = 0 ∧ (0 : Int) = 0) ∧ ((∀ (y : XP), True → AOut.ret (AV.bool true) = AOut.ret (AV.bool true)) ∧ True) ∧ ∀ (y : XP), False → AOut.ret AV.bad = AOut.ret (AV.bool
    true)))))))))))))))))) := by kernel_rfl
--PROOF
def Inv13 : XP → XP → Prop := fun x y => match x, y with | (calm, l, _, at_, rested, _), (calm', l', i, at', rested', now, cal, st) => (calm' = calm ∧ l' = l ∧ at' = at_ ∧ rested' = rested) ∧ (0 ≤ i ∧ i ≤ lenI l) ∧ (0 ≤ cal ∧ cal ≤ i) ∧ (0 ≤ st ∧ st ≤ i)
theorem body13_ok {x : XP} (hp : Pre13 x) {y : XP} (hI : Inv13 x y) :
    awp tab fs3 (acall tab fs3 specs3 fns 100 20) [] 100 (loopAt Try.f6 13) (bodyN sh13 (fun _ => sh13) nx13 (Inv13 x) (fun y => (lenI y.2.1 - y.2.2.1).toNat) (lenI y.2.1 - y.2.2.1).toNat (D13 x)) (sh13 y) := by
  obtain ⟨calm, l, i0, at0, rested0, now0, cal0, st0⟩ := x
  obtain ⟨calm', l', i, at', rested', now, cal, st⟩ := y
  obtain ⟨⟨rfl, rfl, rfl, rfl⟩, hi, hc, hs⟩ := hI
  obtain ⟨p1, p2, -⟩ := hp
  rw [body13]
  generalize hInv : Inv13 (calm', l', i0, at', rested', now0, cal0, st0) = Inv
  generalize hD : D13 (calm', l', i0, at', rested', now0, cal0, st0) = D
  by_cases hlt : i < lenI l'
  case neg =>
    simp only [ltB_f.2 (Int.not_lt.1 hlt), ifB]
    subst hD
    repeat' (first | exact trivial | refine ⟨rfl, ?_⟩)
  have ei : addW .i64 i 1 = i + 1 := addW64 (by omega) (by omega)
  have ec : eqB calm' 0 = false := eqB_f.2 (by omega)
  have el : ltB i (lenI l') = true := ltB_t.2 hlt
  have hin : inI i (lenI l') := ⟨hi.1, hlt⟩
  have hm : (lenI l' - (i + 1)).toNat < (lenI l' - i).toNat := by omega
  have ho : okC calm' cal st := ⟨by omega, by omega, by omega⟩
  have hz : nzW calm' := by show calm' ≠ 0; omega
  have hInv' : ∀ now cal st, (0 ≤ cal ∧ cal ≤ i + 1) → (0 ≤ st ∧ st ≤ i + 1) → Inv (calm', l', i + 1, at', rested', now, cal, st) := by
    intro now cal st h1 h2; rw [← hInv]; exact ⟨⟨rfl, rfl, rfl, rfl⟩, by omega, h1, h2⟩
  have hup : ∀ n, upC n = min (n + 1) 2147483647 := fun _ => rfl
  have hcal : ∀ now a b c d, 0 ≤ calF now a b c d calm' cal ∧ calF now a b c d calm' cal ≤ i + 1 := by
    intro now a b c d; unfold calF cal1F; (repeat' split) <;> omega
  simp only [ei, ec, el]
  simp only [need_def, ifB_def, selB_f, selB_t, selI_def, notB_def, eqI_def, eqL_def, eqD_def, eqT_def, eqB_def, true_and, beqB_def, hin, hm, ho, hz, and_true, decide_true, Bool.not_true, Bool.false_eq_true, false_implies, true_implies, Bool.not_eq_true', decide_eq_false_iff_not, decide_eq_true_eq, not_true, not_false_iff, implies_true, Bool.false_or, Bool.or_false, eq_self, Bool.not_false, if_true, if_false]
  refine ⟨⟨fun _ => ⟨fun h3 => ⟨fun _ => hInv' _ _ _ (by omega) (by omega), fun h => absurd h (by simp [h3])⟩, fun h3 => ⟨fun h => absurd h3 (by simp [h]), fun _ => hInv' _ _ _ (by omega) (by omega)⟩⟩, fun _ => hInv' _ _ _ (hcal ..) (by rw [hup]; omega)⟩, fun h => by cases h⟩
theorem summ13 : SummOK Try.prog (loopAt Try.f6 13) S13 :=
  summN_ok (L := []) (fuel := 100) tabOK fs3OK callS3 (fun C => draw_ok tabOK callS3 mixed C) loopsOK_nil Inv13 (fun _ y => (lenI y.2.1 - y.2.2.1).toNat)
    (fun x hp => by obtain ⟨calm, l, i, at', r, now, cal, st⟩ := x; obtain ⟨p1, p2, rfl, rfl, rfl, rfl⟩ := hp; exact ⟨⟨rfl, rfl, rfl, rfl⟩, ⟨by simp, by simp [lenI]⟩, by simp, by simp⟩)
    (fun x y hp hI => body13_ok hp hI)
theorem fn6 : FnOK Try.prog 6 Try.f6 [(13, S13)] := fnOK_loops Try.func6 (fun vs w => Try.call6 vs w) (by kernel_rfl) fun k S h => by
  simp only [List.mem_cons, Prod.mk.injEq, List.not_mem_nil, or_false] at h
  obtain ⟨rfl, rfl⟩ := h
  exact summ13
theorem ModePlays_call : CallOK Try.prog (acall tab fs3 specs3 fns6 100 20) := acall_ok tabOK fs3OK specs3OK (fnsOK_cons fn6 fnsOK) (fun hC C => draw_ok tabOK hC mixed C) 20
theorem ModePlays_go (calm : Int) (l : List (den OpT)) (at_ : Int) (rested : Bool) : LawEv (acall tab fs3 specs3 fns6 100 20) 6 [.int .i64 calm, .view [] OpT l, .int .i64 at_, .bool rested] := by
  refine ⟨?_⟩
  rw [ModePlays_eq]
  simp only [need_def, ifB_def, impB_def, selB_f, selB_t, selI_def, selX_def, notB_def, andB_def, orB_def, beqB_def, ltB_def, leB_def, eqB_def, seqB_def, eqI_def, eqL_def, eqS_def, eqD_def, eqT_def, imp_def, inI_def, nzI_def, geZ_def, ret_bool, ret_int, Bool.and_eq_true, Bool.or_eq_true, Bool.not_eq_true', Bool.not_eq_false', decide_eq_true_eq, decide_eq_false_iff_not, Bool.and_eq_false_iff, Bool.or_eq_false_iff, Int.not_lt, Int.not_le, true_and, and_true, implies_true, Bool.false_eq_true, Bool.true_eq_false, false_implies, forall_const, reduceCtorEq, if_true, if_false, true_implies, nzW]
  intro h0
  refine ⟨fun h => ?_, fun h => ?_⟩
  · have e : (decide (1 ≤ calm) && decide (calm ≤ 1000)) = false := by simp; omega
    rw [e]
    refine ⟨by simp, fun _ h2 => by omega⟩
  · have e : (decide (1 ≤ calm) && decide (calm ≤ 1000)) = true := by simp; omega
    rw [e]
    refine ⟨fun h2 => ?_, fun _ _ => ⟨by omega, h0⟩⟩
    rcases h2 with (h2 | h2) | h2
    · simp at h2
    · simp at h2
    · omega
theorem ModePlays_ev : ∀ xs : DT [(.int .i64), (.list (.prod (.int .i64) (.prod (.int .i64) (.prod (.int .i64) (.prod (.int .i64) .bool))))), (.int .i64), .bool], wfs [(.int .i64), (.list (.prod (.int .i64) (.prod (.int .i64) (.prod (.int .i64) (.prod (.int .i64) .bool))))), (.int .i64), .bool] xs → LawEv (acall tab fs3 specs3 fns6 100 20) 6 (argsA tab #[3, 27, 3, 4].toList [(.int .i64), (.list (.prod (.int .i64) (.prod (.int .i64) (.prod (.int .i64) (.prod (.int .i64) .bool))))), (.int .i64), .bool] xs) := by
  rintro ⟨calm, l, at_, rested, ⟨⟩⟩ _
  exact ModePlays_go calm l at_ rested


theorem ModePlays_own : ownKnob Try.prog.godebug = none := by kernel_rfl
theorem ModePlays_kids : Kids Try.prog (· < Try.prog.types.size) := kids_rows (by kernel_rfl) (by kernel_rfl)
theorem ModePlays_full : ∀ t e, t < Try.prog.types.size → Try.prog.underlying t = some (.slice e) → 0 < Try.prog.cellsOf e := slices_full_of _ (by kernel_rfl)

theorem ModePlays_lifted (os : Os) (started : os.Started) (H : Type) (enc : TypeId × Value → H) :
    ReturnsInHanded {} Try.checked os 6 .any (Rows.modePlaysSpec.pre6 enc Try.prog Try.f6 Rows.modePlaysRow.domain false) (Rows.modePlaysSpec.post enc Try.prog Try.f6 false true false false) := by
  refine returnsInHanded_of_change_shaped (C := Try.checked) ModePlays_own started (by kernel_rfl) Try.func6
    (ChangeSpec.witness6 (enc := enc) (C := Try.checked) false ⟨#[], #[(Value.int IntKind.i64 0), (Value.slice none 0 0), (Value.int IntKind.i64 0), (Value.bool Bool.false)], []⟩ 8 (by kernel_rfl) (by kernel_rfl) (by kernel_rfl) (by kernel_rfl)) ?_
  intro W base args ds gs before hval hW _ hwt _ _
  refine law_contract' (P := Try.prog) (fn := Try.f6) (s := Rows.modePlaysSpec) (tb := 4) (Ts := [(.int .i64), (.list (.prod (.int .i64) (.prod (.int .i64) (.prod (.int .i64) (.prod (.int .i64) .bool))))), (.int .i64), .bool]) (call := (acall tab fs3 specs3 fns6 100 20)) (f := 6) tabOK ModePlays_call ModePlays_kids ModePlays_full Try.params6 (by decide +kernel) rfl rfl Try.underlying4 ?_ (by kernel_rfl) ModePlays_ev hval hW hwt
  intro ds hl
  match ds, hl with
  | [d0, d1, d2, d3], _ => rfl

theorem ModePlays_holds : Rows.ModePlaysSaid :=
  OpenClaim.holds_of_wide 6 Try.f6 rfl rfl rfl rfl rfl rfl rfl ⟨rfl, rfl, rfl, rfl, rfl⟩ rfl rfl rfl rfl rfl (by kernel_rfl) Try.func6 (by kernel_rfl)
    (of_decide_eq_true (by kernel_rfl)) (by unfold Func.isWrapper; first | (rw [if_pos (by decide +kernel)]; kernel_rfl) | (rw [if_neg (by decide +kernel)]; exact ⟨rfl, rfl⟩))
    (fun os started H enc _ => ModePlays_lifted os started H enc)

end Go.Proofs.Ytbgifokhlbaapaa

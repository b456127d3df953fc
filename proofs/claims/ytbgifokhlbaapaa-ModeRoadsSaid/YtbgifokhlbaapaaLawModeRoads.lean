/- Ytbgifokhlbaapaa: the law ModeRoads returns true for every input, and its arguments read as they did: no condition. -/
import Derived.Test.YtbgifokhlbaapaaRows
import Derived.Test.YtbgifokhlbaapaaSxV
import Derived.Test.YtbgifokhlbaapaaSmMode
import Derived.HandedShaped
namespace Go.Proofs.Ytbgifokhlbaapaa
open Go.ChangeShapes Go.WideShapes Go.ChangeAt Go.RowKit Sx
set_option maxRecDepth 100000
set_option linter.unusedVariables false
set_option linter.unusedSimpArgs false
set_option maxHeartbeats 4000000

@[reducible] def OpT : Ty := .prod (.int .i64) (.prod (.int .i64) (.prod (.int .i64) (.prod (.int .i64) .bool)))
abbrev XR := Int × List (den OpT) × Int × Int × Int × Int
def sh8 : XR → St := fun x => match x with
  | (calm, l, i, last, rest, st) => ⟨setL (rep .bad 164) [(0, .int .i64 calm), (1, .view [] OpT l), (4, .bool false), (5, .ptr 0 0), (7, .int .i64 last), (8, .int .i64 rest), (9, .int .i64 i)], [.var [.int .i64 last, .int .i64 calm, .int .i64 rest, .int .i64 st]], [1], [0, 1]⟩
def nx8 (σ : St) : XR := (gI σ 0, gV OpT σ 1, gI σ 9, gI σ 7, gI σ 8, cI σ 0 3)
def D8 : XR → LEnds XR := fun _ => ⟨[(0, fun _ => True)], fun _ => False⟩
def Pre8 : XR → Prop := fun x => match x with | (calm, l, i, last, rest, st) => 1 ≤ calm ∧ lenI l ≤ 300 ∧ i = 0 ∧ last = 0 ∧ rest = 0
noncomputable def S8 : Summ := summN sh8 (fun _ => sh8) nx8 Pre8 D8
noncomputable def fns5 : Fns := (5, Try.f5, [(8, S8)]) :: fns
abbrev nt (l : List (den OpT)) (i : Int) : den OpT := nth OpT l i
theorem body8 (Inv : XR → Prop) (meas : XR → Nat) (n : Nat) (D : LEnds XR) (calm : Int) (l : List (den OpT)) (i last rest st : Int) : awp tab fs (acall tab fs [] fns 100 20) [] 100 (loopAt Try.f5 8) (bodyN sh8 (fun _ => sh8) nx8 Inv meas n D) (sh8 (calm, l, i, last, rest, st)) =
  (ifB (ltB i (lenI l)) (need (inI i (lenI l)) (ifB (eqB (nt l i).fst 2) (ifB (selB (eqB calm 0) true (notB (eqB last 3))) (ifB (notB (beqB false (eqB last 3))) (need
    True (need True (eqI calm calm (eqD l l (eqL false false (eqI last last (eqI rest rest (eqI i i (eqI last last (eqI calm calm (eqI rest rest (eqI st st (D.2 (calm,
    l, i, last, rest, st)))))))))))))) (need (eqT false false) (ifB (eqB calm 0) (ifB (notB (eqB 3 last)) (eqI calm calm (eqD l l (eqL false false (eqI last last (eqI
    rest rest (eqI i i (eqI last last (eqI calm calm (eqI rest rest (eqI st st (D.2 (calm, l, i, last, rest, st)))))))))))) (eqI calm calm (eqD l l (eqL false false
    (eqI last last (eqI rest rest (eqI (addW IntKind.i64 i 1) (addW IntKind.i64 i 1) (eqI last last (eqI calm calm (eqI rest rest (eqI st st (Inv (calm, l, addW IntKind.i64
    i 1, last, rest, st) ∧ meas (calm, l, addW IntKind.i64 i 1, last, rest, st) < n)))))))))))) (ifB (notB (eqB last last)) (eqI calm calm (eqD l l (eqL false false
    (eqI last last (eqI rest rest (eqI i i (eqI last last (eqI calm calm (eqI rest rest (eqI st st (D.2 (calm, l, i, last, rest, st)))))))))))) (eqI calm calm (eqD l
    l (eqL false false (eqI last last (eqI rest rest (eqI (addW IntKind.i64 i 1) (addW IntKind.i64 i 1) (eqI last last (eqI calm calm (eqI rest rest (eqI st st (Inv
    (calm, l, addW IntKind.i64 i 1, last, rest, st) ∧ meas (calm, l, addW IntKind.i64 i 1, last, rest, st) < n))))))))))))))) (ifB (notB (beqB true (eqB last 3))) (need
    True (need True (eqI calm calm (eqD l l (eqL false false (eqI last last (eqI rest rest (eqI i i (eqI 1 last (eqI calm calm (eqI 0 rest (eqI st st (D.2 (calm, l,
    i, last, rest, st)))))))))))))) (ifB (eqB calm 0) (need True (eqI calm calm (eqD l l (eqL false false (eqI last last (eqI rest rest (eqI i i (eqI 1 last (eqI calm
    calm (eqI 0 rest (eqI st st (D.2 (calm, l, i, last, rest, st))))))))))))) (need (eqT false false) (eqI calm calm (eqD l l (eqL false false (eqI 1 1 (eqI 0 0 (eqI
    (addW IntKind.i64 i 1) (addW IntKind.i64 i 1) (eqI 1 1 (eqI calm calm (eqI 0 0 (eqI st st (Inv (calm, l, addW IntKind.i64 i 1, 1, 0, st) ∧ meas (calm, l, addW IntKind.i64
    i 1, 1, 0, st) < n))))))))))))))) (need (inI i (lenI l)) (ifB (eqB calm 0) (ifB (selB (selB (selB (selB (selB (selB (selB (eqB last 3) false false) true (selB (selB
    (notB (nt l i).snd.snd.snd.snd) true false) false false)) true (selB (eqB last 2) false false)) true (selB (selB (ltB 0 last) (ltB 3 last) false) (ltB (selI (notB
    (selB (selB (selB (leB 3 (nt l i).snd.fst) (leB (nt l i).snd.snd.fst 0) false) (leB (nt l i).snd.snd.snd.fst 0) false) (nt l i).snd.snd.snd.snd false)) 0 (addW IntKind.i64
    rest 1)) calm) false)) true false) true false) true false) (eqI calm calm (eqD l l (eqL false false (eqI last last (eqI (selI (notB (selB (selB (selB (leB 3 (nt
    l i).snd.fst) (leB (nt l i).snd.snd.fst 0) false) (leB (nt l i).snd.snd.snd.fst 0) false) (nt l i).snd.snd.snd.snd false)) 0 (addW IntKind.i64 rest 1)) (selI (notB
    (selB (selB (selB (leB 3 (nt l i).snd.fst) (leB (nt l i).snd.snd.fst 0) false) (leB (nt l i).snd.snd.snd.fst 0) false) (nt l i).snd.snd.snd.snd false)) 0 (addW IntKind.i64
    rest 1)) (eqI i i (eqI last last (eqI calm calm (eqI rest (selI (notB (selB (selB (selB (leB 3 (nt l i).snd.fst) (leB (nt l i).snd.snd.fst 0) false) (leB (nt l i).snd.snd.snd.fst
    0) false) (nt l i).snd.snd.snd.snd false)) 0 (addW IntKind.i64 rest 1)) (eqI st st (D.2 (calm, l, i, last, selI (notB (selB (selB (selB (leB 3 (nt l i).snd.fst)
    (leB (nt l i).snd.snd.fst 0) false) (leB (nt l i).snd.snd.snd.fst 0) false) (nt l i).snd.snd.snd.snd false)) 0 (addW IntKind.i64 rest 1), st)))))))))))) (eqI calm
    calm (eqD l l (eqL false false (eqI 3 3 (eqI (selI (notB (eqB 3 last)) 0 (selI (notB (selB (selB (selB (leB 3 (nt l i).snd.fst) (leB (nt l i).snd.snd.fst 0) false)
    (leB (nt l i).snd.snd.snd.fst 0) false) (nt l i).snd.snd.snd.snd false)) 0 (addW IntKind.i64 rest 1))) (selI (notB (eqB 3 last)) 0 (selI (notB (selB (selB (selB
    (leB 3 (nt l i).snd.fst) (leB (nt l i).snd.snd.fst 0) false) (leB (nt l i).snd.snd.snd.fst 0) false) (nt l i).snd.snd.snd.snd false)) 0 (addW IntKind.i64 rest 1)))
    (eqI (addW IntKind.i64 i 1) (addW IntKind.i64 i 1) (eqI last 3 (eqI calm calm (eqI rest (selI (notB (eqB 3 last)) 0 (selI (notB (selB (selB (selB (leB 3 (nt l i).snd.fst)
    (leB (nt l i).snd.snd.fst 0) false) (leB (nt l i).snd.snd.snd.fst 0) false) (nt l i).snd.snd.snd.snd false)) 0 (addW IntKind.i64 rest 1))) (eqI st st (Inv (calm,
    l, addW IntKind.i64 i 1, 3, selI (notB (eqB 3 last)) 0 (selI (notB (selB (selB (selB (leB 3 (nt l i).snd.fst) (leB (nt l i).snd.snd.fst 0) false) (leB (nt l i).snd.snd.snd.fst
    0) false) (nt l i).snd.snd.snd.snd false)) 0 (addW IntKind.i64 rest 1)), st) ∧ meas (calm, l, addW IntKind.i64 i 1, 3, selI (notB (eqB 3 last)) 0 (selI (notB (selB
    (selB (selB (leB 3 (nt l i).snd.fst) (leB (nt l i).snd.snd.fst 0) false) (leB (nt l i).snd.snd.snd.fst 0) false) (nt l i).snd.snd.snd.snd false)) 0 (addW IntKind.i64
    rest 1)), st) < n)))))))))))) (ifB (notB (calmF (nt l i).snd.fst (nt l i).snd.snd.fst (nt l i).snd.snd.snd.fst (nt l i).snd.snd.snd.snd)) (eqI last last (eqI (nt
    l i).snd.fst (nt l i).snd.fst (eqI (nt l i).snd.snd.fst (nt l i).snd.snd.fst (eqI (nt l i).snd.snd.snd.fst (nt l i).snd.snd.snd.fst (eqL (nt l i).snd.snd.snd.snd
    (nt l i).snd.snd.snd.snd (eqI 0 0 (eqI calm calm (eqL (leB calm 0) (leB calm 0) (eqI 0 0 (eqI calm calm (ifB (notB (eqB (nextF last (nt l i).snd.fst (nt l i).snd.snd.fst
    (nt l i).snd.snd.snd.fst (nt l i).snd.snd.snd.snd (leB calm 0)) last)) (ifB (selB (selB (selB (selB (selB (selB (selB (eqB last 3) (notB (eqB (nextF last (nt l i).snd.fst
    (nt l i).snd.snd.fst (nt l i).snd.snd.snd.fst (nt l i).snd.snd.snd.snd (leB calm 0)) 3)) false) true (selB (selB (notB (nt l i).snd.snd.snd.snd) (notB (eqB (nextF
    last (nt l i).snd.fst (nt l i).snd.snd.fst (nt l i).snd.snd.snd.fst (nt l i).snd.snd.snd.snd (leB calm 0)) 2)) false) (notB (eqB (nextF last (nt l i).snd.fst (nt
    l i).snd.snd.fst (nt l i).snd.snd.snd.fst (nt l i).snd.snd.snd.snd (leB calm 0)) 3)) false)) true (selB (eqB last 2) (eqB (nextF last (nt l i).snd.fst (nt l i).snd.snd.fst
    (nt l i).snd.snd.snd.fst (nt l i).snd.snd.snd.snd (leB calm 0)) 0) false)) true (selB (selB (ltB 0 last) (ltB (nextF last (nt l i).snd.fst (nt l i).snd.snd.fst (nt
    l i).snd.snd.snd.fst (nt l i).snd.snd.snd.snd (leB calm 0)) last) false) (ltB (selI (notB (selB (selB (selB (leB 3 (nt l i).snd.fst) (leB (nt l i).snd.snd.fst 0)
    false) (leB (nt l i).snd.snd.snd.fst 0) false) (nt l i).snd.snd.snd.snd false)) 0 (addW IntKind.i64 rest 1)) calm) false)) true (selB (eqB (nextF last (nt l i).snd.fst
    (nt l i).snd.snd.fst (nt l i).snd.snd.snd.fst (nt l i).snd.snd.snd.snd (leB calm 0)) 0) (notB (selB (selB (selB (leB 3 (nt l i).snd.fst) (leB (nt l i).snd.snd.fst
    0) false) (leB (nt l i).snd.snd.snd.fst 0) false) (nt l i).snd.snd.snd.snd false)) false)) true (ltB (nextF last (nt l i).snd.fst (nt l i).snd.snd.fst (nt l i).snd.snd.snd.fst
    (nt l i).snd.snd.snd.snd (leB calm 0)) 0)) true (ltB 3 (nextF last (nt l i).snd.fst (nt l i).snd.snd.fst (nt l i).snd.snd.snd.fst (nt l i).snd.snd.snd.snd (leB calm
    0)))) (eqI calm calm (eqD l l (eqL false false (eqI last last (eqI (selI (notB (selB (selB (selB (leB 3 (nt l i).snd.fst) (leB (nt l i).snd.snd.fst 0) false) (leB
    (nt l i).snd.snd.snd.fst 0) false) (nt l i).snd.snd.snd.snd false)) 0 (addW IntKind.i64 rest 1)) (selI (notB (selB (selB (selB (leB 3 (nt l i).snd.fst) (leB (nt
    l i).snd.snd.fst 0) false) (leB (nt l i).snd.snd.snd.fst 0) false) (nt l i).snd.snd.snd.snd false)) 0 (addW IntKind.i64 rest 1)) (eqI i i (eqI (nextF last (nt l
    i).snd.fst (nt l i).snd.snd.fst (nt l i).snd.snd.snd.fst (nt l i).snd.snd.snd.snd (leB calm 0)) last (eqI calm calm (eqI 0 (selI (notB (selB (selB (selB (leB 3 (nt
    l i).snd.fst) (leB (nt l i).snd.snd.fst 0) false) (leB (nt l i).snd.snd.snd.fst 0) false) (nt l i).snd.snd.snd.snd false)) 0 (addW IntKind.i64 rest 1)) (eqI (selI
    (ltB 2147483647 (addW IntKind.i64 st 1)) 2147483647 (addW IntKind.i64 st 1)) (selI (ltB 2147483647 (addW IntKind.i64 st 1)) 2147483647 (addW IntKind.i64 st 1)) (D.2
    (calm, l, i, last, selI (notB (selB (selB (selB (leB 3 (nt l i).snd.fst) (leB (nt l i).snd.snd.fst 0) false) (leB (nt l i).snd.snd.snd.fst 0) false) (nt l i).snd.snd.snd.snd
    false)) 0 (addW IntKind.i64 rest 1), selI (ltB 2147483647 (addW IntKind.i64 st 1)) 2147483647 (addW IntKind.i64 st 1))))))))))))) (eqI calm calm (eqD l l (eqL false
    false (eqI (nextF last (nt l i).snd.fst (nt l i).snd.snd.fst (nt l i).snd.snd.snd.fst (nt l i).snd.snd.snd.snd (leB calm 0)) (nextF last (nt l i).snd.fst (nt l i).snd.snd.fst
    (nt l i).snd.snd.snd.fst (nt l i).snd.snd.snd.snd (leB calm 0)) (eqI (selI (notB (eqB (nextF last (nt l i).snd.fst (nt l i).snd.snd.fst (nt l i).snd.snd.snd.fst
    (nt l i).snd.snd.snd.snd (leB calm 0)) last)) 0 (selI (notB (selB (selB (selB (leB 3 (nt l i).snd.fst) (leB (nt l i).snd.snd.fst 0) false) (leB (nt l i).snd.snd.snd.fst
    0) false) (nt l i).snd.snd.snd.snd false)) 0 (addW IntKind.i64 rest 1))) (selI (notB (eqB (nextF last (nt l i).snd.fst (nt l i).snd.snd.fst (nt l i).snd.snd.snd.fst
    (nt l i).snd.snd.snd.snd (leB calm 0)) last)) 0 (selI (notB (selB (selB (selB (leB 3 (nt l i).snd.fst) (leB (nt l i).snd.snd.fst 0) false) (leB (nt l i).snd.snd.snd.fst
    0) false) (nt l i).snd.snd.snd.snd false)) 0 (addW IntKind.i64 rest 1))) (eqI (addW IntKind.i64 i 1) (addW IntKind.i64 i 1) (eqI (nextF last (nt l i).snd.fst (nt
    l i).snd.snd.fst (nt l i).snd.snd.snd.fst (nt l i).snd.snd.snd.snd (leB calm 0)) (nextF last (nt l i).snd.fst (nt l i).snd.snd.fst (nt l i).snd.snd.snd.fst (nt l
    i).snd.snd.snd.snd (leB calm 0)) (eqI calm calm (eqI 0 (selI (notB (eqB (nextF last (nt l i).snd.fst (nt l i).snd.snd.fst (nt l i).snd.snd.snd.fst (nt l i).snd.snd.snd.snd
    (leB calm 0)) last)) 0 (selI (notB (selB (selB (selB (leB 3 (nt l i).snd.fst) (leB (nt l i).snd.snd.fst 0) false) (leB (nt l i).snd.snd.snd.fst 0) false) (nt l i).snd.snd.snd.snd
    false)) 0 (addW IntKind.i64 rest 1))) (eqI (selI (ltB 2147483647 (addW IntKind.i64 st 1)) 2147483647 (addW IntKind.i64 st 1)) (selI (ltB 2147483647 (addW IntKind.i64
    st 1)) 2147483647 (addW IntKind.i64 st 1)) (Inv (calm, l, addW IntKind.i64 i 1, nextF last (nt l i).snd.fst (nt l i).snd.snd.fst (nt l i).snd.snd.snd.fst (nt l i).snd.snd.snd.snd
    (leB calm 0), selI (notB (eqB (nextF last (nt l i).snd.fst (nt l i).snd.snd.fst (nt l i).snd.snd.snd.fst (nt l i).snd.snd.snd.snd (leB calm 0)) last)) 0 (selI (notB
    (selB (selB (selB (leB 3 (nt l i).snd.fst) (leB (nt l i).snd.snd.fst 0) false) (leB (nt l i).snd.snd.snd.fst 0) false) (nt l i).snd.snd.snd.snd false)) 0 (addW IntKind.i64
    rest 1)), selI (ltB 2147483647 (addW IntKind.i64 st 1)) 2147483647 (addW IntKind.i64 st 1)) ∧ meas (calm, l, addW IntKind.i64 i 1, nextF last (nt l i).snd.fst (nt
    l i).snd.snd.fst (nt l i).snd.snd.snd.fst (nt l i).snd.snd.snd.snd (leB calm 0), selI (notB (eqB (nextF last (nt l i).snd.fst (nt l i).snd.snd.fst (nt l i).snd.snd.snd.fst
    (nt l i).snd.snd.snd.snd (leB calm 0)) last)) 0 (selI (notB (selB (selB (selB (leB 3 (nt l i).snd.fst) (leB (nt l i).snd.snd.fst 0) false) (leB (nt l i).snd.snd.snd.fst
    0) false) (nt l i).snd.snd.snd.snd false)) 0 (addW IntKind.i64 rest 1)), selI (ltB 2147483647 (addW IntKind.i64 st 1)) 2147483647 (addW IntKind.i64 st 1)) < n))))))))))))
    (ifB (selB (selB (selB (selB (selB (selB (selB (eqB last 3) (notB (eqB (nextF last (nt l i).snd.fst (nt l i).snd.snd.fst (nt l i).snd.snd.snd.fst (nt l i).snd.snd.snd.snd
    (leB calm 0)) 3)) false) true (selB (selB (notB (nt l i).snd.snd.snd.snd) (notB (eqB (nextF last (nt l i).snd.fst (nt l i).snd.snd.fst (nt l i).snd.snd.snd.fst (nt
    l i).snd.snd.snd.snd (leB calm 0)) 2)) false) (notB (eqB (nextF last (nt l i).snd.fst (nt l i).snd.snd.fst (nt l i).snd.snd.snd.fst (nt l i).snd.snd.snd.snd (leB
    calm 0)) 3)) false)) true (selB (eqB last 2) (eqB (nextF last (nt l i).snd.fst (nt l i).snd.snd.fst (nt l i).snd.snd.snd.fst (nt l i).snd.snd.snd.snd (leB calm 0))
    0) false)) true (selB (selB (ltB 0 last) (ltB (nextF last (nt l i).snd.fst (nt l i).snd.snd.fst (nt l i).snd.snd.snd.fst (nt l i).snd.snd.snd.snd (leB calm 0)) last)
    false) (ltB (selI (notB (selB (selB (selB (leB 3 (nt l i).snd.fst) (leB (nt l i).snd.snd.fst 0) false) (leB (nt l i).snd.snd.snd.fst 0) false) (nt l i).snd.snd.snd.snd
    false)) 0 (addW IntKind.i64 rest 1)) calm) false)) true (selB (eqB (nextF last (nt l i).snd.fst (nt l i).snd.snd.fst (nt l i).snd.snd.snd.fst (nt l i).snd.snd.snd.snd
    (leB calm 0)) 0) (notB (selB (selB (selB (leB 3 (nt l i).snd.fst) (leB (nt l i).snd.snd.fst 0) false) (leB (nt l i).snd.snd.snd.fst 0) false) (nt l i).snd.snd.snd.snd
    false)) false)) true (ltB (nextF last (nt l i).snd.fst (nt l i).snd.snd.fst (nt l i).snd.snd.snd.fst (nt l i).snd.snd.snd.snd (leB calm 0)) 0)) true (ltB 3 (nextF
    last (nt l i).snd.fst (nt l i).snd.snd.fst (nt l i).snd.snd.snd.fst (nt l i).snd.snd.snd.snd (leB calm 0)))) (eqI calm calm (eqD l l (eqL false false (eqI last last
    (eqI (selI (notB (selB (selB (selB (leB 3 (nt l i).snd.fst) (leB (nt l i).snd.snd.fst 0) false) (leB (nt l i).snd.snd.snd.fst 0) false) (nt l i).snd.snd.snd.snd
    false)) 0 (addW IntKind.i64 rest 1)) (selI (notB (selB (selB (selB (leB 3 (nt l i).snd.fst) (leB (nt l i).snd.snd.fst 0) false) (leB (nt l i).snd.snd.snd.fst 0)
    false) (nt l i).snd.snd.snd.snd false)) 0 (addW IntKind.i64 rest 1)) (eqI i i (eqI (nextF last (nt l i).snd.fst (nt l i).snd.snd.fst (nt l i).snd.snd.snd.fst (nt
    l i).snd.snd.snd.snd (leB calm 0)) last (eqI calm calm (eqI 0 (selI (notB (selB (selB (selB (leB 3 (nt l i).snd.fst) (leB (nt l i).snd.snd.fst 0) false) (leB (nt
    l i).snd.snd.snd.fst 0) false) (nt l i).snd.snd.snd.snd false)) 0 (addW IntKind.i64 rest 1)) (eqI (selI (ltB 2147483647 (addW IntKind.i64 st 1)) 2147483647 (addW
    IntKind.i64 st 1)) (selI (ltB 2147483647 (addW IntKind.i64 st 1)) 2147483647 (addW IntKind.i64 st 1)) (D.2 (calm, l, i, last, selI (notB (selB (selB (selB (leB 3
    (nt l i).snd.fst) (leB (nt l i).snd.snd.fst 0) false) (leB (nt l i).snd.snd.snd.fst 0) false) (nt l i).snd.snd.snd.snd false)) 0 (addW IntKind.i64 rest 1), selI
    (ltB 2147483647 (addW IntKind.i64 st 1)) 2147483647 (addW IntKind.i64 st 1))))))))))))) (eqI calm calm (eqD l l (eqL false false (eqI (nextF last (nt l i).snd.fst
    (nt l i).snd.snd.fst (nt l i).snd.snd.snd.fst (nt l i).snd.snd.snd.snd (leB calm 0)) (nextF last (nt l i).snd.fst (nt l i).snd.snd.fst (nt l i).snd.snd.snd.fst (nt
    l i).snd.snd.snd.snd (leB calm 0)) (eqI (selI (notB (eqB (nextF last (nt l i).snd.fst (nt l i).snd.snd.fst (nt l i).snd.snd.snd.fst (nt l i).snd.snd.snd.snd (leB
    calm 0)) last)) 0 (selI (notB (selB (selB (selB (leB 3 (nt l i).snd.fst) (leB (nt l i).snd.snd.fst 0) false) (leB (nt l i).snd.snd.snd.fst 0) false) (nt l i).snd.snd.snd.snd
    false)) 0 (addW IntKind.i64 rest 1))) (selI (notB (eqB (nextF last (nt l i).snd.fst (nt l i).snd.snd.fst (nt l i).snd.snd.snd.fst (nt l i).snd.snd.snd.snd (leB calm
    0)) last)) 0 (selI (notB (selB (selB (selB (leB 3 (nt l i).snd.fst) (leB (nt l i).snd.snd.fst 0) false) (leB (nt l i).snd.snd.snd.fst 0) false) (nt l i).snd.snd.snd.snd
    false)) 0 (addW IntKind.i64 rest 1))) (eqI (addW IntKind.i64 i 1) (addW IntKind.i64 i 1) (eqI (nextF last (nt l i).snd.fst (nt l i).snd.snd.fst (nt l i).snd.snd.snd.fst
    (nt l i).snd.snd.snd.snd (leB calm 0)) (nextF last (nt l i).snd.fst (nt l i).snd.snd.fst (nt l i).snd.snd.snd.fst (nt l i).snd.snd.snd.snd (leB calm 0)) (eqI calm
    calm (eqI 0 (selI (notB (eqB (nextF last (nt l i).snd.fst (nt l i).snd.snd.fst (nt l i).snd.snd.snd.fst (nt l i).snd.snd.snd.snd (leB calm 0)) last)) 0 (selI (notB
    (selB (selB (selB (leB 3 (nt l i).snd.fst) (leB (nt l i).snd.snd.fst 0) false) (leB (nt l i).snd.snd.snd.fst 0) false) (nt l i).snd.snd.snd.snd false)) 0 (addW IntKind.i64
    rest 1))) (eqI (selI (ltB 2147483647 (addW IntKind.i64 st 1)) 2147483647 (addW IntKind.i64 st 1)) (selI (ltB 2147483647 (addW IntKind.i64 st 1)) 2147483647 (addW
    IntKind.i64 st 1)) (Inv (calm, l, addW IntKind.i64 i 1, nextF last (nt l i).snd.fst (nt l i).snd.snd.fst (nt l i).snd.snd.snd.fst (nt l i).snd.snd.snd.snd (leB calm
    0), selI (notB (eqB (nextF last (nt l i).snd.fst (nt l i).snd.snd.fst (nt l i).snd.snd.snd.fst (nt l i).snd.snd.snd.snd (leB calm 0)) last)) 0 (selI (notB (selB
    (selB (selB (leB 3 (nt l i).snd.fst) (leB (nt l i).snd.snd.fst 0) false) (leB (nt l i).snd.snd.snd.fst 0) false) (nt l i).snd.snd.snd.snd false)) 0 (addW IntKind.i64
    rest 1)), selI (ltB 2147483647 (addW IntKind.i64 st 1)) 2147483647 (addW IntKind.i64 st 1)) ∧ meas (calm, l, addW IntKind.i64 i 1, nextF last (nt l i).snd.fst (nt
    l i).snd.snd.fst (nt l i).snd.snd.snd.fst (nt l i).snd.snd.snd.snd (leB calm 0), selI (notB (eqB (nextF last (nt l i).snd.fst (nt l i).snd.snd.fst (nt l i).snd.snd.snd.fst
    (nt l i).snd.snd.snd.snd (leB calm 0)) last)) 0 (selI (notB (selB (selB (selB (leB 3 (nt l i).snd.fst) (leB (nt l i).snd.snd.fst 0) false) (leB (nt l i).snd.snd.snd.fst
    0) false) (nt l i).snd.snd.snd.snd false)) 0 (addW IntKind.i64 rest 1)), selI (ltB 2147483647 (addW IntKind.i64 st 1)) 2147483647 (addW IntKind.i64 st 1)) < n)))))))))))))))))))))))
    (eqI last last (eqI (nt l i).snd.fst (nt l i).snd.fst (eqI (nt l i).snd.snd.fst (nt l i).snd.snd.fst (eqI (nt l i).snd.snd.snd.fst (nt l i).snd.snd.snd.fst (eqL
    (nt l i).snd.snd.snd.snd (nt l i).snd.snd.snd.snd (eqI (selI (ltB 2147483647 (addW IntKind.i64 rest 1)) 2147483647 (addW IntKind.i64 rest 1)) (selI (ltB 2147483647
    (addW IntKind.i64 rest 1)) 2147483647 (addW IntKind.i64 rest 1)) (eqI calm calm (eqL (leB calm (selI (ltB 2147483647 (addW IntKind.i64 rest 1)) 2147483647 (addW
    IntKind.i64 rest 1))) (leB calm (selI (ltB 2147483647 (addW IntKind.i64 rest 1)) 2147483647 (addW IntKind.i64 rest 1))) (eqI (selI (ltB 2147483647 (addW IntKind.i64
    rest 1)) 2147483647 (addW IntKind.i64 rest 1)) (selI (ltB 2147483647 (addW IntKind.i64 rest 1)) 2147483647 (addW IntKind.i64 rest 1)) (eqI calm calm (ifB (notB (eqB
    (nextF last (nt l i).snd.fst (nt l i).snd.snd.fst (nt l i).snd.snd.snd.fst (nt l i).snd.snd.snd.snd (leB calm (selI (ltB 2147483647 (addW IntKind.i64 rest 1)) 2147483647
    (addW IntKind.i64 rest 1)))) last)) (ifB (selB (selB (selB (selB (selB (selB (selB (eqB last 3) (notB (eqB (nextF last (nt l i).snd.fst (nt l i).snd.snd.fst (nt
    l i).snd.snd.snd.fst (nt l i).snd.snd.snd.snd (leB calm (selI (ltB 2147483647 (addW IntKind.i64 rest 1)) 2147483647 (addW IntKind.i64 rest 1)))) 3)) false) true
    (selB (selB (notB (nt l i).snd.snd.snd.snd) (notB (eqB (nextF last (nt l i).snd.fst (nt l i).snd.snd.fst (nt l i).snd.snd.snd.fst (nt l i).snd.snd.snd.snd (leB calm
    (selI (ltB 2147483647 (addW IntKind.i64 rest 1)) 2147483647 (addW IntKind.i64 rest 1)))) 2)) false) (notB (eqB (nextF last (nt l i).snd.fst (nt l i).snd.snd.fst
    (nt l i).snd.snd.snd.fst (nt l i).snd.snd.snd.snd (leB calm (selI (ltB 2147483647 (addW IntKind.i64 rest 1)) 2147483647 (addW IntKind.i64 rest 1)))) 3)) false))
    true (selB (eqB last 2) (eqB (nextF last (nt l i).snd.fst (nt l i).snd.snd.fst (nt l i).snd.snd.snd.fst (nt l i).snd.snd.snd.snd (leB calm (selI (ltB 2147483647
    (addW IntKind.i64 rest 1)) 2147483647 (addW IntKind.i64 rest 1)))) 0) false)) true (selB (selB (ltB 0 last) (ltB (nextF last (nt l i).snd.fst (nt l i).snd.snd.fst
    (nt l i).snd.snd.snd.fst (nt l i).snd.snd.snd.snd (leB calm (selI (ltB 2147483647 (addW IntKind.i64 rest 1)) 2147483647 (addW IntKind.i64 rest 1)))) last) false)
    (ltB (selI (notB (selB (selB (selB (leB 3 (nt l i).snd.fst) (leB (nt l i).snd.snd.fst 0) false) (leB (nt l i).snd.snd.snd.fst 0) false) (nt l i).snd.snd.snd.snd
    false)) 0 (addW IntKind.i64 rest 1)) calm) false)) true (selB (eqB (nextF last (nt l i).snd.fst (nt l i).snd.snd.fst (nt l i).snd.snd.snd.fst (nt l i).snd.snd.snd.snd
    (leB calm (selI (ltB 2147483647 (addW IntKind.i64 rest 1)) 2147483647 (addW IntKind.i64 rest 1)))) 0) (notB (selB (selB (selB (leB 3 (nt l i).snd.fst) (leB (nt l
    i).snd.snd.fst 0) false) (leB (nt l i).snd.snd.snd.fst 0) false) (nt l i).snd.snd.snd.snd false)) false)) true (ltB (nextF last (nt l i).snd.fst (nt l i).snd.snd.fst
    (nt l i).snd.snd.snd.fst (nt l i).snd.snd.snd.snd (leB calm (selI (ltB 2147483647 (addW IntKind.i64 rest 1)) 2147483647 (addW IntKind.i64 rest 1)))) 0)) true (ltB
    3 (nextF last (nt l i).snd.fst (nt l i).snd.snd.fst (nt l i).snd.snd.snd.fst (nt l i).snd.snd.snd.snd (leB calm (selI (ltB 2147483647 (addW IntKind.i64 rest 1))
    2147483647 (addW IntKind.i64 rest 1)))))) (eqI calm calm (eqD l l (eqL false false (eqI last last (eqI (selI (notB (selB (selB (selB (leB 3 (nt l i).snd.fst) (leB
    (nt l i).snd.snd.fst 0) false) (leB (nt l i).snd.snd.snd.fst 0) false) (nt l i).snd.snd.snd.snd false)) 0 (addW IntKind.i64 rest 1)) (selI (notB (selB (selB (selB
    (leB 3 (nt l i).snd.fst) (leB (nt l i).snd.snd.fst 0) false) (leB (nt l i).snd.snd.snd.fst 0) false) (nt l i).snd.snd.snd.snd false)) 0 (addW IntKind.i64 rest 1))
    (eqI i i (eqI (nextF last (nt l i).snd.fst (nt l i).snd.snd.fst (nt l i).snd.snd.snd.fst (nt l i).snd.snd.snd.snd (leB calm (selI (ltB 2147483647 (addW IntKind.i64
    rest 1)) 2147483647 (addW IntKind.i64 rest 1)))) last (eqI calm calm (eqI 0 (selI (notB (selB (selB (selB (leB 3 (nt l i).snd.fst) (leB (nt l i).snd.snd.fst 0) false)
    (leB (nt l i).snd.snd.snd.fst 0) false) (nt l i).snd.snd.snd.snd false)) 0 (addW IntKind.i64 rest 1)) (eqI (selI (ltB 2147483647 (addW IntKind.i64 st 1)) 2147483647
    (addW IntKind.i64 st 1)) (selI (ltB 2147483647 (addW IntKind.i64 st 1)) 2147483647 (addW IntKind.i64 st 1)) (D.2 (calm, l, i, last, selI (notB (selB (selB (selB
    (leB 3 (nt l i).snd.fst) (leB (nt l i).snd.snd.fst 0) false) (leB (nt l i).snd.snd.snd.fst 0) false) (nt l i).snd.snd.snd.snd false)) 0 (addW IntKind.i64 rest 1),
    selI (ltB 2147483647 (addW IntKind.i64 st 1)) 2147483647 (addW IntKind.i64 st 1))))))))))))) (eqI calm calm (eqD l l (eqL false false (eqI (nextF last (nt l i).snd.fst
    (nt l i).snd.snd.fst (nt l i).snd.snd.snd.fst (nt l i).snd.snd.snd.snd (leB calm (selI (ltB 2147483647 (addW IntKind.i64 rest 1)) 2147483647 (addW IntKind.i64 rest
    1)))) (nextF last (nt l i).snd.fst (nt l i).snd.snd.fst (nt l i).snd.snd.snd.fst (nt l i).snd.snd.snd.snd (leB calm (selI (ltB 2147483647 (addW IntKind.i64 rest
    1)) 2147483647 (addW IntKind.i64 rest 1)))) (eqI (selI (notB (eqB (nextF last (nt l i).snd.fst (nt l i).snd.snd.fst (nt l i).snd.snd.snd.fst (nt l i).snd.snd.snd.snd
    (leB calm (selI (ltB 2147483647 (addW IntKind.i64 rest 1)) 2147483647 (addW IntKind.i64 rest 1)))) last)) 0 (selI (notB (selB (selB (selB (leB 3 (nt l i).snd.fst)
    (leB (nt l i).snd.snd.fst 0) false) (leB (nt l i).snd.snd.snd.fst 0) false) (nt l i).snd.snd.snd.snd false)) 0 (addW IntKind.i64 rest 1))) (selI (notB (eqB (nextF
    last (nt l i).snd.fst (nt l i).snd.snd.fst (nt l i).snd.snd.snd.fst (nt l i).snd.snd.snd.snd (leB calm (selI (ltB 2147483647 (addW IntKind.i64 rest 1)) 2147483647
    (addW IntKind.i64 rest 1)))) last)) 0 (selI (notB (selB (selB (selB (leB 3 (nt l i).snd.fst) (leB (nt l i).snd.snd.fst 0) false) (leB (nt l i).snd.snd.snd.fst 0)
    false) (nt l i).snd.snd.snd.snd false)) 0 (addW IntKind.i64 rest 1))) (eqI (addW IntKind.i64 i 1) (addW IntKind.i64 i 1) (eqI (nextF last (nt l i).snd.fst (nt l
    i).snd.snd.fst (nt l i).snd.snd.snd.fst (nt l i).snd.snd.snd.snd (leB calm (selI (ltB 2147483647 (addW IntKind.i64 rest 1)) 2147483647 (addW IntKind.i64 rest 1))))
    (nextF last (nt l i).snd.fst (nt l i).snd.snd.fst (nt l i).snd.snd.snd.fst (nt l i).snd.snd.snd.snd (leB calm (selI (ltB 2147483647 (addW IntKind.i64 rest 1)) 2147483647
    (addW IntKind.i64 rest 1)))) (eqI calm calm (eqI 0 (selI (notB (eqB (nextF last (nt l i).snd.fst (nt l i).snd.snd.fst (nt l i).snd.snd.snd.fst (nt l i).snd.snd.snd.snd
    (leB calm (selI (ltB 2147483647 (addW IntKind.i64 rest 1)) 2147483647 (addW IntKind.i64 rest 1)))) last)) 0 (selI (notB (selB (selB (selB (leB 3 (nt l i).snd.fst)
    (leB (nt l i).snd.snd.fst 0) false) (leB (nt l i).snd.snd.snd.fst 0) false) (nt l i).snd.snd.snd.snd false)) 0 (addW IntKind.i64 rest 1))) (eqI (selI (ltB 2147483647
    (addW IntKind.i64 st 1)) 2147483647 (addW IntKind.i64 st 1)) (selI (ltB 2147483647 (addW IntKind.i64 st 1)) 2147483647 (addW IntKind.i64 st 1)) (Inv (calm, l, addW
    IntKind.i64 i 1, nextF last (nt l i).snd.fst (nt l i).snd.snd.fst (nt l i).snd.snd.snd.fst (nt l i).snd.snd.snd.snd (leB calm (selI (ltB 2147483647 (addW IntKind.i64
    rest 1)) 2147483647 (addW IntKind.i64 rest 1))), selI (notB (eqB (nextF last (nt l i).snd.fst (nt l i).snd.snd.fst (nt l i).snd.snd.snd.fst (nt l i).snd.snd.snd.snd
    (leB calm (selI (ltB 2147483647 (addW IntKind.i64 rest 1)) 2147483647 (addW IntKind.i64 rest 1)))) last)) 0 (selI (notB (selB (selB (selB (leB 3 (nt l i).snd.fst)
    (leB (nt l i).snd.snd.fst 0) false) (leB (nt l i).snd.snd.snd.fst 0) false) (nt l i).snd.snd.snd.snd false)) 0 (addW IntKind.i64 rest 1)), selI (ltB 2147483647 (addW
    IntKind.i64 st 1)) 2147483647 (addW IntKind.i64 st 1)) ∧ meas (calm, l, addW IntKind.i64 i 1, nextF last (nt l i).snd.fst (nt l i).snd.snd.fst (nt l i).snd.snd.snd.fst
    (nt l i).snd.snd.snd.snd (leB calm (selI (ltB 2147483647 (addW IntKind.i64 rest 1)) 2147483647 (addW IntKind.i64 rest 1))), selI (notB (eqB (nextF last (nt l i).snd.fst
    (nt l i).snd.snd.fst (nt l i).snd.snd.snd.fst (nt l i).snd.snd.snd.snd (leB calm (selI (ltB 2147483647 (addW IntKind.i64 rest 1)) 2147483647 (addW IntKind.i64 rest
    1)))) last)) 0 (selI (notB (selB (selB (selB (leB 3 (nt l i).snd.fst) (leB (nt l i).snd.snd.fst 0) false) (leB (nt l i).snd.snd.snd.fst 0) false) (nt l i).snd.snd.snd.snd
    false)) 0 (addW IntKind.i64 rest 1)), selI (ltB 2147483647 (addW IntKind.i64 st 1)) 2147483647 (addW IntKind.i64 st 1)) < n)))))))))))) (ifB (selB (selB (selB (selB
    (selB (selB (selB (eqB last 3) (notB (eqB (nextF last (nt l i).snd.fst (nt l i).snd.snd.fst (nt l i).snd.snd.snd.fst (nt l i).snd.snd.snd.snd (leB calm (selI (ltB
    2147483647 (addW IntKind.i64 rest 1)) 2147483647 (addW IntKind.i64 rest 1)))) 3)) false) true (selB (selB (notB (nt l i).snd.snd.snd.snd) (notB (eqB (nextF last
    (nt l i).snd.fst (nt l i).snd.snd.fst (nt l i).snd.snd.snd.fst (nt l i).snd.snd.snd.snd (leB calm (selI (ltB 2147483647 (addW IntKind.i64 rest 1)) 2147483647 (addW
    IntKind.i64 rest 1)))) 2)) false) (notB (eqB (nextF last (nt l i).snd.fst (nt l i).snd.snd.fst (nt l i).snd.snd.snd.fst (nt l i).snd.snd.snd.snd (leB calm (selI
    (ltB 2147483647 (addW IntKind.i64 rest 1)) 2147483647 (addW IntKind.i64 rest 1)))) 3)) false)) true (selB (eqB last 2) (eqB (nextF last (nt l i).snd.fst (nt l i).snd.snd.fst
    (nt l i).snd.snd.snd.fst (nt l i).snd.snd.snd.snd (leB calm (selI (ltB 2147483647 (addW IntKind.i64 rest 1)) 2147483647 (addW IntKind.i64 rest 1)))) 0) false)) true
    (selB (selB (ltB 0 last) (ltB (nextF last (nt l i).snd.fst (nt l i).snd.snd.fst (nt l i).snd.snd.snd.fst (nt l i).snd.snd.snd.snd (leB calm (selI (ltB 2147483647
    (addW IntKind.i64 rest 1)) 2147483647 (addW IntKind.i64 rest 1)))) last) false) (ltB (selI (notB (selB (selB (selB (leB 3 (nt l i).snd.fst) (leB (nt l i).snd.snd.fst
    0) false) (leB (nt l i).snd.snd.snd.fst 0) false) (nt l i).snd.snd.snd.snd false)) 0 (addW IntKind.i64 rest 1)) calm) false)) true (selB (eqB (nextF last (nt l i).snd.fst
    (nt l i).snd.snd.fst (nt l i).snd.snd.snd.fst (nt l i).snd.snd.snd.snd (leB calm (selI (ltB 2147483647 (addW IntKind.i64 rest 1)) 2147483647 (addW IntKind.i64 rest
    1)))) 0) (notB (selB (selB (selB (leB 3 (nt l i).snd.fst) (leB (nt l i).snd.snd.fst 0) false) (leB (nt l i).snd.snd.snd.fst 0) false) (nt l i).snd.snd.snd.snd false))
    false)) true (ltB (nextF last (nt l i).snd.fst (nt l i).snd.snd.fst (nt l i).snd.snd.snd.fst (nt l i).snd.snd.snd.snd (leB calm (selI (ltB 2147483647 (addW IntKind.i64
    rest 1)) 2147483647 (addW IntKind.i64 rest 1)))) 0)) true (ltB 3 (nextF last (nt l i).snd.fst (nt l i).snd.snd.fst (nt l i).snd.snd.snd.fst (nt l i).snd.snd.snd.snd
    (leB calm (selI (ltB 2147483647 (addW IntKind.i64 rest 1)) 2147483647 (addW IntKind.i64 rest 1)))))) (eqI calm calm (eqD l l (eqL false false (eqI last last (eqI
    (selI (notB (selB (selB (selB (leB 3 (nt l i).snd.fst) (leB (nt l i).snd.snd.fst 0) false) (leB (nt l i).snd.snd.snd.fst 0) false) (nt l i).snd.snd.snd.snd false))
    0 (addW IntKind.i64 rest 1)) (selI (notB (selB (selB (selB (leB 3 (nt l i).snd.fst) (leB (nt l i).snd.snd.fst 0) false) (leB (nt l i).snd.snd.snd.fst 0) false) (nt
    l i).snd.snd.snd.snd false)) 0 (addW IntKind.i64 rest 1)) (eqI i i (eqI (nextF last (nt l i).snd.fst (nt l i).snd.snd.fst (nt l i).snd.snd.snd.fst (nt l i).snd.snd.snd.snd
    (leB calm (selI (ltB 2147483647 (addW IntKind.i64 rest 1)) 2147483647 (addW IntKind.i64 rest 1)))) last (eqI calm calm (eqI (selI (ltB 2147483647 (addW IntKind.i64
    rest 1)) 2147483647 (addW IntKind.i64 rest 1)) (selI (notB (selB (selB (selB (leB 3 (nt l i).snd.fst) (leB (nt l i).snd.snd.fst 0) false) (leB (nt l i).snd.snd.snd.fst
    0) false) (nt l i).snd.snd.snd.snd false)) 0 (addW IntKind.i64 rest 1)) (eqI (selI (ltB 2147483647 (addW IntKind.i64 st 1)) 2147483647 (addW IntKind.i64 st 1)) (selI
    (ltB 2147483647 (addW IntKind.i64 st 1)) 2147483647 (addW IntKind.i64 st 1)) (D.2 (calm, l, i, last, selI (notB (selB (selB (selB (leB 3 (nt l i).snd.fst) (leB (nt
    l i).snd.snd.fst 0) false) (leB (nt l i).snd.snd.snd.fst 0) false) (nt l i).snd.snd.snd.snd false)) 0 (addW IntKind.i64 rest 1), selI (ltB 2147483647 (addW IntKind.i64
    st 1)) 2147483647 (addW IntKind.i64 st 1))))))))))))) (eqI calm calm (eqD l l (eqL false false (eqI (nextF last (nt l i).snd.fst (nt l i).snd.snd.fst (nt l i).snd.snd.snd.fst
    (nt l i).snd.snd.snd.snd (leB calm (selI (ltB 2147483647 (addW IntKind.i64 rest 1)) 2147483647 (addW IntKind.i64 rest 1)))) (nextF last (nt l i).snd.fst (nt l i).snd.snd.fst
    (nt l i).snd.snd.snd.fst (nt l i).snd.snd.snd.snd (leB calm (selI (ltB 2147483647 (addW IntKind.i64 rest 1)) 2147483647 (addW IntKind.i64 rest 1)))) (eqI (selI (notB
    (eqB (nextF last (nt l i).snd.fst (nt l i).snd.snd.fst (nt l i).snd.snd.snd.fst (nt l i).snd.snd.snd.snd (leB calm (selI (ltB 2147483647 (addW IntKind.i64 rest 1))
    2147483647 (addW IntKind.i64 rest 1)))) last)) 0 (selI (notB (selB (selB (selB (leB 3 (nt l i).snd.fst) (leB (nt l i).snd.snd.fst 0) false) (leB (nt l i).snd.snd.snd.fst
    0) false) (nt l i).snd.snd.snd.snd false)) 0 (addW IntKind.i64 rest 1))) (selI (notB (eqB (nextF last (nt l i).snd.fst (nt l i).snd.snd.fst (nt l i).snd.snd.snd.fst
    (nt l i).snd.snd.snd.snd (leB calm (selI (ltB 2147483647 (addW IntKind.i64 rest 1)) 2147483647 (addW IntKind.i64 rest 1)))) last)) 0 (selI (notB (selB (selB (selB
    (leB 3 (nt l i).snd.fst) (leB (nt l i).snd.snd.fst 0) false) (leB (nt l i).snd.snd.snd.fst 0) false) (nt l i).snd.snd.snd.snd false)) 0 (addW IntKind.i64 rest 1)))
    (eqI (addW IntKind.i64 i 1) (addW IntKind.i64 i 1) (eqI (nextF last (nt l i).snd.fst (nt l i).snd.snd.fst (nt l i).snd.snd.snd.fst (nt l i).snd.snd.snd.snd (leB
    calm (selI (ltB 2147483647 (addW IntKind.i64 rest 1)) 2147483647 (addW IntKind.i64 rest 1)))) (nextF last (nt l i).snd.fst (nt l i).snd.snd.fst (nt l i).snd.snd.snd.fst
    (nt l i).snd.snd.snd.snd (leB calm (selI (ltB 2147483647 (addW IntKind.i64 rest 1)) 2147483647 (addW IntKind.i64 rest 1)))) (eqI calm calm (eqI (selI (ltB 2147483647
    (addW IntKind.i64 rest 1)) 2147483647 (addW IntKind.i64 rest 1)) (selI (notB (eqB (nextF last (nt l i).snd.fst (nt l i).snd.snd.fst (nt l i).snd.snd.snd.fst (nt
    l i).snd.snd.snd.snd (leB calm (selI (ltB 2147483647 (addW IntKind.i64 rest 1)) 2147483647 (addW IntKind.i64 rest 1)))) last)) 0 (selI (notB (selB (selB (selB (leB
    3 (nt l i).snd.fst) (leB (nt l i).snd.snd.fst 0) false) (leB (nt l i).snd.snd.snd.fst 0) false) (nt l i).snd.snd.snd.snd false)) 0 (addW IntKind.i64 rest 1))) (eqI
    (selI (ltB 2147483647 (addW IntKind.i64 st 1)) 2147483647 (addW IntKind.i64 st 1)) (selI (ltB 2147483647 (addW IntKind.i64 st 1)) 2147483647 (addW IntKind.i64 st
    1)) (Inv (calm, l, addW IntKind.i64 i 1, nextF last (nt l i).snd.fst (nt l i).snd.snd.fst (nt l i).snd.snd.snd.fst (nt l i).snd.snd.snd.snd (leB calm (selI (ltB
    2147483647 (addW IntKind.i64 rest 1)) 2147483647 (addW IntKind.i64 rest 1))), selI (notB (eqB (nextF last (nt l i).snd.fst (nt l i).snd.snd.fst (nt l i).snd.snd.snd.fst
    (nt l i).snd.snd.snd.snd (leB calm (selI (ltB 2147483647 (addW IntKind.i64 rest 1)) 2147483647 (addW IntKind.i64 rest 1)))) last)) 0 (selI (notB (selB (selB (selB
    (leB 3 (nt l i).snd.fst) (leB (nt l i).snd.snd.fst 0) false) (leB (nt l i).snd.snd.snd.fst 0) false) (nt l i).snd.snd.snd.snd false)) 0 (addW IntKind.i64 rest 1)),
    selI (ltB 2147483647 (addW IntKind.i64 st 1)) 2147483647 (addW IntKind.i64 st 1)) ∧ meas (calm, l, addW IntKind.i64 i 1, nextF last (nt l i).snd.fst (nt l i).snd.snd.fst
    (nt l i).snd.snd.snd.fst (nt l i).snd.snd.snd.snd (leB calm (selI (ltB 2147483647 (addW IntKind.i64 rest 1)) 2147483647 (addW IntKind.i64 rest 1))), selI (notB (eqB
    (nextF last (nt l i).snd.fst (nt l i).snd.snd.fst (nt l i).snd.snd.snd.fst (nt l i).snd.snd.snd.snd (leB calm (selI (ltB 2147483647 (addW IntKind.i64 rest 1)) 2147483647
    (addW IntKind.i64 rest 1)))) last)) 0 (selI (notB (selB (selB (selB (leB 3 (nt l i).snd.fst) (leB (nt l i).snd.snd.fst 0) false) (leB (nt l i).snd.snd.snd.fst 0)
    false) (nt l i).snd.snd.snd.snd false)) 0 (addW IntKind.i64 rest 1)), selI (ltB 2147483647 (addW IntKind.i64 st 1)) 2147483647 (addW IntKind.i64 st 1)) < n))))))))))))))))))))))))))))
    (eqI calm calm (eqD l l (eqL false false (eqI last last (eqI rest rest (eqI i i (eqI last last (eqI calm calm (eqI rest rest (eqI st st ((List.brecOn.go (motive
    := fun x => Nat → XR → Prop) D.exits elook._f).1 0 (calm, l, i, last, rest, st))))))))))))) := by kernel_rfl
theorem ModeRoads_eq (calm : Int) (l : List (den OpT)) : acall tab fs [] fns5 100 20 5 [.int .i64 calm, .view [] OpT l] [] (fun o _ _ _ => o = .ret (.bool true)) =
  (ifB (selB (ltB calm 1) true (ltB 1000 calm)) (AOut.ret (AV.bool true) = AOut.ret (AV.bool true)) (ifB (ltB 300 (lenI l)) (AOut.ret (AV.bool true) = AOut.ret (AV.bool
    true)) (eqI calm calm (eqD l l (eqL false false (eqI 0 0 (eqI 0 0 (eqI 0 0 (eqI 0 0 (eqI calm calm (eqI 0 0 (eqI 0 0 ((1 ≤ calm ∧ lenI l ≤ 300 ∧ (0 : Int) = 0 ∧
    (0 : Int) = 0 ∧ (0 : Int) = 0) ∧ ((∀ (y : XR), True → AOut.ret (AV.bool true) = AOut.ret (AV.bool true)) ∧ True) ∧ ∀ (y : XR), False → AOut.ret (AV.bool false) =
    AOut.ret (AV.bool true)))))))))))))) := by kernel_rfl
--PROOF
theorem quietF {a b c : Int} {d : Bool} : (leB 3 a && leB b 0 && leB c 0 && d) = calmF a b c d := rfl
def Inv8 : XR → XR → Prop := fun x y => match x, y with | (calm, l, _), (calm', l', i, last, rest, _) => calm' = calm ∧ l' = l ∧ (0 ≤ i ∧ i ≤ lenI l) ∧ (0 ≤ last ∧ last ≤ 3) ∧ 0 ≤ rest ∧ rest ≤ i
theorem next_facts {last a b c : Int} {d : Bool} (hl : 0 ≤ last ∧ last ≤ 3) {q r : Bool} (hq : q = calmF a b c d) {n : Int} (hn : n = nextF last a b c d r) :
    (0 ≤ n ∧ n ≤ 3) ∧ (last = 3 → n = 3) ∧ (d = false → n = 2 ∨ n = 3) ∧ (last = 2 → n ≠ 0) ∧ (0 < last → n < last → r = true) ∧ (n = 0 → q = true) := by
  have hd : d = false → q = false := by intro hd; rw [hq, hd]; simp [calmF]
  unfold nextF at hn
  rw [← hq] at hn
  cases q <;> cases r <;> cases d <;> simp at hn hd ⊢ <;> split at hn <;> (try split at hn) <;> (try split at hn) <;> (try split at hn) <;> (try split at hn) <;> omega
theorem body8_ok {x : XR} (hp : Pre8 x) {y : XR} (hI : Inv8 x y) :
    awp tab fs (acall tab fs [] fns 100 20) [] 100 (loopAt Try.f5 8) (bodyN sh8 (fun _ => sh8) nx8 (Inv8 x) (fun y => (lenI y.2.1 - y.2.2.1).toNat) (lenI y.2.1 - y.2.2.1).toNat (D8 x)) (sh8 y) := by
  obtain ⟨calm, l, i0, last0, rest0, st0⟩ := x
  obtain ⟨calm', l', i, last, rest, st⟩ := y
  obtain ⟨rfl, rfl, hi, hl, hr⟩ := hI
  obtain ⟨p1, p2, -⟩ := hp
  rw [body8]
  generalize hInv : Inv8 (calm', l', i0, last0, rest0, st0) = Inv
  generalize hD : D8 (calm', l', i0, last0, rest0, st0) = D
  by_cases hlt : i < lenI l'
  case neg =>
    simp only [ltB_f.2 (Int.not_lt.1 hlt), ifB]
    subst hD
    exact ⟨rfl, rfl, rfl, rfl, rfl, rfl, rfl, rfl, rfl, rfl, trivial⟩
  have er : addW .i64 rest 1 = rest + 1 := addW64 (by omega) (by omega)
  have ei : addW .i64 i 1 = i + 1 := addW64 (by omega) (by omega)
  have es : selI (ltB 2147483647 (rest + 1)) 2147483647 (rest + 1) = rest + 1 := by rw [ltB_f.2 (by omega)]; rfl
  have ec : eqB calm' 0 = false := eqB_f.2 (by omega)
  have eb : leB calm' 0 = false := leB_f.2 (by omega)
  have el : ltB i (lenI l') = true := ltB_t.2 hlt
  have hin : inI i (lenI l') := ⟨hi.1, hlt⟩
  have hm : (lenI l' - (i + 1)).toNat < (lenI l' - i).toNat := by omega
  simp only [er, es, ei, ec, eb, el]
  obtain ⟨k, a, b, c, d, hx⟩ : ∃ (k a b c : Int) (d : Bool), nt l' i = (k, a, b, c, d) := ⟨_, _, _, _, _, rfl⟩
  simp only [hx]
  have hInv' : ∀ last rest st, (0 ≤ last ∧ last ≤ 3) → 0 ≤ rest → rest ≤ i + 1 → Inv (calm', l', i + 1, last, rest, st) := by
    intro last rest st h1 h2 h3; rw [← hInv]; exact ⟨rfl, rfl, by omega, h1, h2, h3⟩
  simp only [need_def, ifB_def, selB_f, selB_t, selI_def, notB_def, eqI_def, eqL_def, eqD_def, eqT_def, quietF, true_and, beqB_def, hin, hm, and_true]
  generalize hq : calmF a b c d = q
  have hs0 : ∀ r : Bool, (r = true → q = true ∧ calm' ≤ rest + 1) → ∀ n, n = nextF last a b c d r →
      (eqB last 3 && !eqB n 3 || !d && !eqB n 2 && !eqB n 3 || eqB last 2 && eqB n 0 || ltB 0 last && ltB n last && ltB (if (!q) = true then 0 else rest + 1) calm' || eqB n 0 && !q || ltB n 0 || ltB 3 n) = false ∧ (0 ≤ n ∧ n ≤ 3) := by
    intro r h1 n hn
    have f := next_facts hl hq.symm hn
    refine ⟨?_, f.1⟩
    obtain ⟨f1, f2, f3, f4, f5, f6⟩ := f
    cases q <;> cases d <;> cases r <;> simp [eqB_def, ltB_def, leB_def] at h1 f2 f3 f4 f5 f6 ⊢ <;> omega
  have h0 := hs0 false (by simp) _ rfl
  simp only [h0.1]
  cases q with
  | false =>
    simp [eqB_def, ltB_def, beq_iff_eq]
    refine ⟨fun _ => ⟨fun h3 => ⟨fun h => absurd h h3, fun _ => hInv' _ _ _ hl hr.1 (by omega)⟩, fun h3 => ⟨fun h => absurd h3 h, fun _ => hInv' _ _ _ (by omega) (by omega) (by omega)⟩⟩, fun _ => ⟨fun _ => hInv' _ _ _ h0.2 (by omega) (by omega), fun _ => hInv' _ _ _ h0.2 (by omega) (by omega)⟩⟩
  | true =>
    have h1 := hs0 (leB calm' (rest + 1)) (fun h => ⟨rfl, leB_t.1 h⟩) _ rfl
    simp only [h1.1]
    simp [eqB_def, ltB_def, beq_iff_eq]
    refine ⟨fun _ => ⟨fun h3 => ⟨fun h => absurd h h3, fun _ => hInv' _ _ _ hl hr.1 (by omega)⟩, fun h3 => ⟨fun h => absurd h3 h, fun _ => hInv' _ _ _ (by omega) (by omega) (by omega)⟩⟩, fun _ => ⟨fun hn => ⟨fun h => absurd h hn, hInv' _ _ _ h1.2 (by split <;> omega) (by split <;> omega)⟩, fun hn => ⟨fun h => absurd hn h, hInv' _ _ _ h1.2 (by split <;> omega) (by split <;> omega)⟩⟩⟩
theorem summ8 : SummOK Try.prog (loopAt Try.f5 8) S8 :=
  summN_ok (L := []) (fuel := 100) tabOK fsOK callS (fun C => draw_ok tabOK callS mixed C) loopsOK_nil Inv8 (fun _ y => (lenI y.2.1 - y.2.2.1).toNat)
    (fun x hp => by obtain ⟨calm, l, i, last, rest, st⟩ := x; obtain ⟨p1, p2, rfl, rfl, rfl⟩ := hp; exact ⟨rfl, rfl, ⟨by simp, by simp [lenI]⟩, by simp, by simp, by simp⟩)
    (fun x y hp hI => body8_ok hp hI)
theorem fn5 : FnOK Try.prog 5 Try.f5 [(8, S8)] := fnOK_loops Try.func5 (fun vs w => Try.call5 vs w) (by kernel_rfl) fun k S h => by
  simp only [List.mem_cons, Prod.mk.injEq, List.not_mem_nil, or_false] at h
  obtain ⟨rfl, rfl⟩ := h
  exact summ8
theorem ModeRoads_call : CallOK Try.prog (acall tab fs [] fns5 100 20) := acall_ok tabOK fsOK specsOK_nil (fnsOK_cons fn5 fnsOK) (fun hC C => draw_ok tabOK hC mixed C) 20
theorem ModeRoads_go (calm : Int) (l : List (den OpT)) : LawEv (acall tab fs [] fns5 100 20) 5 [.int .i64 calm, .view [] OpT l] := by
  refine ⟨?_⟩
  rw [ModeRoads_eq]
  simp only [need_def, ifB_def, impB_def, selB_f, selB_t, selI_def, selX_def, notB_def, andB_def, orB_def, beqB_def, ltB_def, leB_def, eqB_def, seqB_def, eqI_def, eqL_def, eqS_def, eqD_def, eqT_def, imp_def, inI_def, nzI_def, geZ_def, ret_bool, ret_int, Bool.and_eq_true, Bool.or_eq_true, Bool.not_eq_true', Bool.not_eq_false', decide_eq_true_eq, decide_eq_false_iff_not, Bool.and_eq_false_iff, Bool.or_eq_false_iff, Int.not_lt, Int.not_le, true_and, and_true, implies_true, Bool.false_eq_true, Bool.true_eq_false, false_implies, forall_const, reduceCtorEq, if_true, if_false, true_implies]
  intro _ h2
  exact ⟨by omega, by omega⟩
theorem ModeRoads_ev : ∀ xs : DT [(.int .i64), (.list (.prod (.int .i64) (.prod (.int .i64) (.prod (.int .i64) (.prod (.int .i64) .bool)))))], wfs [(.int .i64), (.list (.prod (.int .i64) (.prod (.int .i64) (.prod (.int .i64) (.prod (.int .i64) .bool)))))] xs → LawEv (acall tab fs [] fns5 100 20) 5 (argsA tab #[3, 27].toList [(.int .i64), (.list (.prod (.int .i64) (.prod (.int .i64) (.prod (.int .i64) (.prod (.int .i64) .bool)))))] xs) := by
  rintro ⟨calm, l, ⟨⟩⟩ _
  exact ModeRoads_go calm l


theorem ModeRoads_own : ownKnob Try.prog.godebug = none := by kernel_rfl
theorem ModeRoads_kids : Kids Try.prog (· < Try.prog.types.size) := kids_rows (by kernel_rfl) (by kernel_rfl)
theorem ModeRoads_full : ∀ t e, t < Try.prog.types.size → Try.prog.underlying t = some (.slice e) → 0 < Try.prog.cellsOf e := slices_full_of _ (by kernel_rfl)

theorem ModeRoads_lifted (os : Os) (started : os.Started) (H : Type) (enc : TypeId × Value → H) :
    ReturnsInHanded {} Try.checked os 5 .any (Rows.modeRoadsSpec.pre6 enc Try.prog Try.f5 Rows.modeRoadsRow.domain false) (Rows.modeRoadsSpec.post enc Try.prog Try.f5 false true false false) := by
  refine returnsInHanded_of_change_shaped (C := Try.checked) ModeRoads_own started (by kernel_rfl) Try.func5
    (ChangeSpec.witness6 (enc := enc) (C := Try.checked) false ⟨#[], #[(Value.int IntKind.i64 0), (Value.slice none 0 0)], []⟩ 8 (by kernel_rfl) (by kernel_rfl) (by kernel_rfl) (by kernel_rfl)) ?_
  intro W base args ds gs before hval hW _ hwt _ _
  refine law_contract' (P := Try.prog) (fn := Try.f5) (s := Rows.modeRoadsSpec) (tb := 4) (Ts := [(.int .i64), (.list (.prod (.int .i64) (.prod (.int .i64) (.prod (.int .i64) (.prod (.int .i64) .bool)))))]) (call := (acall tab fs [] fns5 100 20)) (f := 5) tabOK ModeRoads_call ModeRoads_kids ModeRoads_full Try.params5 (by decide +kernel) rfl rfl Try.underlying4 ?_ (by kernel_rfl) ModeRoads_ev hval hW hwt
  intro ds hl
  match ds, hl with
  | [d0, d1], _ => rfl

theorem ModeRoads_holds : Rows.ModeRoadsSaid :=
  OpenClaim.holds_of_wide 5 Try.f5 rfl rfl rfl rfl rfl rfl rfl ⟨rfl, rfl, rfl, rfl, rfl⟩ rfl rfl rfl rfl rfl (by kernel_rfl) Try.func5 (by kernel_rfl)
    (of_decide_eq_true (by kernel_rfl)) (by unfold Func.isWrapper; first | (rw [if_pos (by decide +kernel)]; kernel_rfl) | (rw [if_neg (by decide +kernel)]; exact ⟨rfl, rfl⟩))
    (fun os started H enc _ => ModeRoads_lifted os started H enc)

end Go.Proofs.Ytbgifokhlbaapaa

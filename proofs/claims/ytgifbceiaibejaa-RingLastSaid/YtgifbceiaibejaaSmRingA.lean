/- The rings: a first call. -/
import Derived.Test.YtgifbceiaibejaaSxV
import Derived.Test.YtgifbceiaibejaaSx12
namespace Go.Proofs.Ytgifbceiaibejaa.Sx
open Go.RowKit
set_option maxRecDepth 100000
set_option maxHeartbeats 4000000
set_option linter.unusedVariables false
set_option linter.unusedSimpArgs false
noncomputable def aliveS : List AV → OV := fun args => match args with | [] => some ([], .bool true) | _ => none
theorem alive_eq  : acall tab [] [] fns 100 20 10 [] [] (fun o mm _ _ => resN (.any) mm o = .ret (.bool true)) =
  (eqI 3 3 (need (geZ 3) (need (fitA 3) (eqI 3 3 (eqI 3 3 (need (eqI 3 3 (need (geZ 3) (need (fitA 3) (eqI 3 3 (eqI 0 0 (eqI 0 0 (eqL true true (need (eqI 3 3 (eqI
    3 3 (need (geZ 3) (need (fitA 3) (eqI 0 0 (eqI 0 0 (eqL false false (eqI 0 0 (need (inI 0 4) (need (inI 0 4) (need (inI 0 1) (need (inI 0 1) (need (inI 0 3) (eqI
    0 0 (eqI 9 9 (need (inI 0 3) (need (AV.rptr 0 (Ty.int IntKind.i64) 0 0 = AV.rptr 0 (Ty.int IntKind.i64) 0 0) (need (inI 0 3) (need (nzI 3) (eqI 0 0 (eqI 1 1 (eqI
    3 3 (need (nzI 3) (eqI 1 1 (eqI 0 0 (eqI 1 1 (eqI 3 3 (eqI 1 1 (eqI 9 9 (eqI 0 0 (eqI 9 9 (eqI 0 0 (eqI 1 1 (eqI 0 0 (eqI 9 9 (eqI 0 0 (need (nzI 3) (need (inI 0
    3) (eqI 1 1 (eqI 9 9 (eqI 0 0 (need (AV.rptr 2 ((Ty.int IntKind.i64).prod (Ty.int IntKind.i64)) 0 0 = AV.rptr 2 ((Ty.int IntKind.i64).prod (Ty.int IntKind.i64))
    0 0) (need (inI 0 3) (eqI 9 9 (eqI 0 0 (eqI 9 9 (eqI 0 0 (eqI 9 9 (eqI 0 0 (eqI 1 1 (eqI 0 0 (eqI 9 9 (eqI 0 0 (need (nzI 3) (need (inI 0 3) (eqI 1 1 (eqI 9 9 (eqI
    0 0 (need (AV.rptr 4 ((Ty.int IntKind.i64).prod (Ty.int IntKind.i64)) 0 0 = AV.rptr 4 ((Ty.int IntKind.i64).prod (Ty.int IntKind.i64)) 0 0) (need (inI 0 3) (eqI
    9 9 (eqI 0 0 (need (inI 1 4) (need (inI 1 4) (need (inI 0 1) (need (inI 0 1) (need (inI 1 3) (eqI 1 1 (eqI 1 1 (need (inI 1 3) (need (AV.rptr 0 (Ty.int IntKind.i64)
    1 0 = AV.rptr 0 (Ty.int IntKind.i64) 1 0) (need (inI 1 3) (need (nzI 3) (eqI 1 1 (eqI 2 2 (eqI 3 3 (need (nzI 3) (eqI 2 2 (eqI 1 1 (eqI 2 2 (eqI 3 3 (eqI 2 2 (eqI
    1 1 (eqI 1 1 (eqI 1 1 (eqI 1 1 (need (nzI 3) (need (inI 0 3) (need (inI 0 3) (eqI 2 2 (eqI 1 1 (eqI 1 1 (eqI 1 1 (need (nzI 3) (need (inI 1 3) (eqI 2 2 (eqI 1 1
    (eqI 1 1 (need (AV.rptr 2 ((Ty.int IntKind.i64).prod (Ty.int IntKind.i64)) 1 0 = AV.rptr 2 ((Ty.int IntKind.i64).prod (Ty.int IntKind.i64)) 1 0) (need (inI 1 3)
    (eqI 1 1 (eqI 1 1 (eqI 1 1 (eqI 1 1 (eqI 1 1 (eqI 1 1 (need (nzI 3) (need (inI 0 3) (need (inI 0 3) (eqI 1 1 (eqI 0 0 (eqI 1 1 (eqI 1 1 (need (nzI 3) (need (inI
    0 3) (eqI 1 1 (eqI 1 1 (eqI 1 1 (need (AV.rptr 4 ((Ty.int IntKind.i64).prod (Ty.int IntKind.i64)) 0 0 = AV.rptr 4 ((Ty.int IntKind.i64).prod (Ty.int IntKind.i64))
    0 0) (need (inI 0 3) (eqI 1 1 (eqI 1 1 (need (inI 2 4) (need (inI 2 4) (need (inI 0 1) (need (inI 0 1) (need (inI 2 3) (eqI 2 2 (eqI 2 2 (need (inI 2 3) (need (AV.rptr
    0 (Ty.int IntKind.i64) 2 0 = AV.rptr 0 (Ty.int IntKind.i64) 2 0) (need (inI 2 3) (need (nzI 3) (eqI 2 2 (eqI 3 3 (eqI 3 3 (need (nzI 3) (eqI 0 0 (eqI 2 2 (eqI 3
    3 (eqI 3 3 (eqI 3 3 (eqI 2 2 (eqI 2 2 (eqI 2 2 (eqI 2 2 (need (nzI 3) (need (inI 1 3) (need (inI 1 3) (need (nzI 3) (need (inI 0 3) (need (inI 0 3) (eqI 2 2 (eqI
    1 1 (eqI 2 2 (eqI 2 2 (need (nzI 3) (need (inI 1 3) (eqI 2 2 (eqI 2 2 (eqI 2 2 (need (AV.rptr 2 ((Ty.int IntKind.i64).prod (Ty.int IntKind.i64)) 1 0 = AV.rptr 2
    ((Ty.int IntKind.i64).prod (Ty.int IntKind.i64)) 1 0) (need (inI 1 3) (eqI 2 2 (eqI 2 2 (eqI 2 2 (eqI 2 2 (eqI 2 2 (eqI 2 2 (need (nzI 3) (need (inI 0 3) (need (inI
    0 3) (eqI 2 2 (eqI 1 1 (eqI 2 2 (eqI 2 2 (need (nzI 3) (need (inI 1 3) (eqI 2 2 (eqI 2 2 (eqI 2 2 (need (AV.rptr 4 ((Ty.int IntKind.i64).prod (Ty.int IntKind.i64))
    1 0 = AV.rptr 4 ((Ty.int IntKind.i64).prod (Ty.int IntKind.i64)) 1 0) (need (inI 1 3) (eqI 2 2 (eqI 2 2 (need (inI 3 4) (need (inI 3 4) (need (inI 0 1) (need (inI
    0 1) (need (inI 0 3) (eqI 0 0 (eqI 3 3 (need (inI 0 3) (need (AV.rptr 0 (Ty.int IntKind.i64) 0 0 = AV.rptr 0 (Ty.int IntKind.i64) 0 0) (need (inI 0 3) (need (nzI
    3) (eqI 0 0 (eqI 1 1 (eqI 3 3 (need (nzI 3) (eqI 1 1 (eqI 3 3 (eqI 4 4 (eqI 3 3 (eqI 3 3 (eqI 3 3 (eqI 3 3 (eqI 3 3 (eqI 3 3 (need (nzI 3) (need (inI 1 3) (need
    (inI 1 3) (need (nzI 3) (need (inI 0 3) (need (inI 0 3) (eqI 2 2 (eqI 1 1 (eqI 3 3 (eqI 3 3 (need (nzI 3) (need (inI 1 3) (eqI 2 2 (eqI 3 3 (eqI 3 3 (need (AV.rptr
    2 ((Ty.int IntKind.i64).prod (Ty.int IntKind.i64)) 1 0 = AV.rptr 2 ((Ty.int IntKind.i64).prod (Ty.int IntKind.i64)) 1 0) (need (inI 1 3) (eqI 3 3 (eqI 3 3 (eqI 3
    3 (eqI 3 3 (eqI 3 3 (eqI 3 3 (need (nzI 3) (need (inI 1 3) (need (inI 1 3) (eqI 3 3 (eqI 2 2 (eqI 3 3 (eqI 3 3 (need (nzI 3) (need (inI 2 3) (eqI 3 3 (eqI 3 3 (eqI
    3 3 (need (AV.rptr 4 ((Ty.int IntKind.i64).prod (Ty.int IntKind.i64)) 2 0 = AV.rptr 4 ((Ty.int IntKind.i64).prod (Ty.int IntKind.i64)) 2 0) (need (inI 2 3) (eqI
    3 3 (eqI 3 3 (need (AV.fn (Fn.func 35) (@List.nil AV) (@List.nil AV) = AV.fn (Fn.func 35) (@List.nil AV) (@List.nil AV)) (eqI 4 4 (eqI 4 4 (eqI 4 4 (eqI 1 1 (need
    (nzI 3) (need (inI 0 3) (need (inI 0 3) (need (nzI 3) (eqI 0 0 (eqI 1 1 (eqI 3 3 (need (nzI 3) (eqI 1 1 (eqI 2 2 (eqI 1 1 (eqI 1 1 (need (nzI 3) (need (inI 1 3)
    (need (inI 1 3) (need (nzI 3) (need (inI 1 3) (need (inI 1 3) (eqI 4 4 (eqI 3 3 (eqL true true (eqI 3 3 (eqL true true (eqL true true (need (nzI 3) (need (inI 1
    3) (need (inI 1 3) (need (inI 0 1) (need (inI 0 1) (eqI 0 0 (eqI 1 1 (eqI 5 5 (eqI 0 0 (eqI 5 5 (eqI 1 1 (eqI 1 1 (need (inI 0 2) (need (inI 0 2) (eqI 1 1 (eqI 3
    3 (eqI 5 5 (eqI 1 1 (eqI 4 4 (eqI 3 3 (eqI 4 4 (need (inI 1 2) (need (inI 1 2) (eqI 4 4 (eqI 9 9 (eqI 5 5 (eqI 4 4 (eqI 1 1 (eqI 1 1 (eqI 5 5 (AOut.ret (AV.bool
    true) = AOut.ret (AV.bool true)))))))))))))))))))))))))))))))))))))))))))))))))))))))))))))))))))))))))))))))))))))))))))))))))))))))))))))))))))))))))))))))))))))))))))))))))))))))))))))))))))))))))))))))))))))))))))))))))))))))))))))))))))))))))))))))))))))))))))))))))))))))))))))))))))))))))))))))))))))))))))))))))))))))))))))))))))))
    (eqI 3 3 (need (geZ 3) (need (fitA 3) (eqI 0 0 (eqI 0 0 (eqL true true (eqI 0 0 (eqI 0 0 (eqL false false (need (eqI 0 0 (eqI 0 0 (eqL false false (eqI 0 0 (need
    (inI 0 4) (need (inI 0 4) (need (inI 0 1) (need (inI 0 1) (need (inI 0 3) (eqI 0 0 (eqI 9 9 (need (inI 0 3) (need (AV.rptr 0 (Ty.int IntKind.i64) 0 0 = AV.rptr 0
    (Ty.int IntKind.i64) 0 0) (need (inI 0 3) (need (nzI 3) (eqI 0 0 (eqI 1 1 (eqI 3 3 (need (nzI 3) (eqI 1 1 (eqI 0 0 (eqI 1 1 (eqI 3 3 (eqI 1 1 (eqI 9 9 (eqI 0 0 (eqI
    9 9 (eqI 0 0 (eqI 1 1 (eqI 0 0 (eqI 9 9 (eqI 0 0 (need (nzI 3) (need (inI 0 3) (eqI 1 1 (eqI 9 9 (eqI 0 0 (need (AV.rptr 2 ((Ty.int IntKind.i64).prod (Ty.int IntKind.i64))
    0 0 = AV.rptr 2 ((Ty.int IntKind.i64).prod (Ty.int IntKind.i64)) 0 0) (need (inI 0 3) (eqI 9 9 (eqI 0 0 (eqI 9 9 (eqI 0 0 (eqI 9 9 (eqI 0 0 (eqI 1 1 (eqI 0 0 (eqI
    9 9 (eqI 0 0 (need (nzI 3) (need (inI 0 3) (eqI 1 1 (eqI 9 9 (eqI 0 0 (need (AV.rptr 4 ((Ty.int IntKind.i64).prod (Ty.int IntKind.i64)) 0 0 = AV.rptr 4 ((Ty.int
    IntKind.i64).prod (Ty.int IntKind.i64)) 0 0) (need (inI 0 3) (eqI 9 9 (eqI 0 0 (need (inI 1 4) (need (inI 1 4) (need (inI 0 1) (need (inI 0 1) (need (inI 1 3) (eqI
    1 1 (eqI 1 1 (need (inI 1 3) (need (AV.rptr 0 (Ty.int IntKind.i64) 1 0 = AV.rptr 0 (Ty.int IntKind.i64) 1 0) (need (inI 1 3) (need (nzI 3) (eqI 1 1 (eqI 2 2 (eqI
    3 3 (need (nzI 3) (eqI 2 2 (eqI 1 1 (eqI 2 2 (eqI 3 3 (eqI 2 2 (eqI 1 1 (eqI 1 1 (eqI 1 1 (eqI 1 1 (need (nzI 3) (need (inI 0 3) (need (inI 0 3) (eqI 2 2 (eqI 1
    1 (eqI 1 1 (eqI 1 1 (need (nzI 3) (need (inI 1 3) (eqI 2 2 (eqI 1 1 (eqI 1 1 (need (AV.rptr 2 ((Ty.int IntKind.i64).prod (Ty.int IntKind.i64)) 1 0 = AV.rptr 2 ((Ty.int
    IntKind.i64).prod (Ty.int IntKind.i64)) 1 0) (need (inI 1 3) (eqI 1 1 (eqI 1 1 (eqI 1 1 (eqI 1 1 (eqI 1 1 (eqI 1 1 (need (nzI 3) (need (inI 0 3) (need (inI 0 3)
    (eqI 1 1 (eqI 0 0 (eqI 1 1 (eqI 1 1 (need (nzI 3) (need (inI 0 3) (eqI 1 1 (eqI 1 1 (eqI 1 1 (need (AV.rptr 4 ((Ty.int IntKind.i64).prod (Ty.int IntKind.i64)) 0
    0 = AV.rptr 4 ((Ty.int IntKind.i64).prod (Ty.int IntKind.i64)) 0 0) (need (inI 0 3) (eqI 1 1 (eqI 1 1 (need (inI 2 4) (need (inI 2 4) (need (inI 0 1) (need (inI
    0 1) (need (inI 2 3) (eqI 2 2 (eqI 2 2 (need (inI 2 3) (need (AV.rptr 0 (Ty.int IntKind.i64) 2 0 = AV.rptr 0 (Ty.int IntKind.i64) 2 0) (need (inI 2 3) (need (nzI
    3) (eqI 2 2 (eqI 3 3 (eqI 3 3 (need (nzI 3) (eqI 0 0 (eqI 2 2 (eqI 3 3 (eqI 3 3 (eqI 3 3 (eqI 2 2 (eqI 2 2 (eqI 2 2 (eqI 2 2 (need (nzI 3) (need (inI 1 3) (need
    (inI 1 3) (need (nzI 3) (need (inI 0 3) (need (inI 0 3) (eqI 2 2 (eqI 1 1 (eqI 2 2 (eqI 2 2 (need (nzI 3) (need (inI 1 3) (eqI 2 2 (eqI 2 2 (eqI 2 2 (need (AV.rptr
    2 ((Ty.int IntKind.i64).prod (Ty.int IntKind.i64)) 1 0 = AV.rptr 2 ((Ty.int IntKind.i64).prod (Ty.int IntKind.i64)) 1 0) (need (inI 1 3) (eqI 2 2 (eqI 2 2 (eqI 2
    2 (eqI 2 2 (eqI 2 2 (eqI 2 2 (need (nzI 3) (need (inI 0 3) (need (inI 0 3) (eqI 2 2 (eqI 1 1 (eqI 2 2 (eqI 2 2 (need (nzI 3) (need (inI 1 3) (eqI 2 2 (eqI 2 2 (eqI
    2 2 (need (AV.rptr 4 ((Ty.int IntKind.i64).prod (Ty.int IntKind.i64)) 1 0 = AV.rptr 4 ((Ty.int IntKind.i64).prod (Ty.int IntKind.i64)) 1 0) (need (inI 1 3) (eqI
    2 2 (eqI 2 2 (need (inI 3 4) (need (inI 3 4) (need (inI 0 1) (need (inI 0 1) (need (inI 0 3) (eqI 0 0 (eqI 3 3 (need (inI 0 3) (need (AV.rptr 0 (Ty.int IntKind.i64)
    0 0 = AV.rptr 0 (Ty.int IntKind.i64) 0 0) (need (inI 0 3) (need (nzI 3) (eqI 0 0 (eqI 1 1 (eqI 3 3 (need (nzI 3) (eqI 1 1 (eqI 3 3 (eqI 4 4 (eqI 3 3 (eqI 3 3 (eqI
    3 3 (eqI 3 3 (eqI 3 3 (eqI 3 3 (need (nzI 3) (need (inI 1 3) (need (inI 1 3) (need (nzI 3) (need (inI 0 3) (need (inI 0 3) (eqI 2 2 (eqI 1 1 (eqI 3 3 (eqI 3 3 (need
    (nzI 3) (need (inI 1 3) (eqI 2 2 (eqI 3 3 (eqI 3 3 (need (AV.rptr 2 ((Ty.int IntKind.i64).prod (Ty.int IntKind.i64)) 1 0 = AV.rptr 2 ((Ty.int IntKind.i64).prod (Ty.int
    IntKind.i64)) 1 0) (need (inI 1 3) (eqI 3 3 (eqI 3 3 (eqI 3 3 (eqI 3 3 (eqI 3 3 (eqI 3 3 (need (nzI 3) (need (inI 1 3) (need (inI 1 3) (eqI 3 3 (eqI 2 2 (eqI 3 3
    (eqI 3 3 (need (nzI 3) (need (inI 2 3) (eqI 3 3 (eqI 3 3 (eqI 3 3 (need (AV.rptr 4 ((Ty.int IntKind.i64).prod (Ty.int IntKind.i64)) 2 0 = AV.rptr 4 ((Ty.int IntKind.i64).prod
    (Ty.int IntKind.i64)) 2 0) (need (inI 2 3) (eqI 3 3 (eqI 3 3 (need (AV.fn (Fn.func 35) (@List.nil AV) (@List.nil AV) = AV.fn (Fn.func 35) (@List.nil AV) (@List.nil
    AV)) (eqI 4 4 (eqI 4 4 (eqI 4 4 (eqI 1 1 (need (nzI 3) (need (inI 0 3) (need (inI 0 3) (need (nzI 3) (eqI 0 0 (eqI 1 1 (eqI 3 3 (need (nzI 3) (eqI 1 1 (eqI 2 2 (eqI
    1 1 (eqI 1 1 (need (nzI 3) (need (inI 1 3) (need (inI 1 3) (need (nzI 3) (need (inI 1 3) (need (inI 1 3) (eqI 4 4 (eqI 3 3 (eqL true true (eqI 3 3 (eqL true true
    (eqL true true (need (nzI 3) (need (inI 1 3) (need (inI 1 3) (need (inI 0 1) (need (inI 0 1) (eqI 0 0 (eqI 1 1 (eqI 5 5 (eqI 0 0 (eqI 5 5 (eqI 1 1 (eqI 1 1 (need
    (inI 0 2) (need (inI 0 2) (eqI 1 1 (eqI 3 3 (eqI 5 5 (eqI 1 1 (eqI 4 4 (eqI 3 3 (eqI 4 4 (need (inI 1 2) (need (inI 1 2) (eqI 4 4 (eqI 9 9 (eqI 5 5 (eqI 4 4 (eqI
    1 1 (eqI 1 1 (eqI 5 5 (AOut.ret (AV.bool true) = AOut.ret (AV.bool true)))))))))))))))))))))))))))))))))))))))))))))))))))))))))))))))))))))))))))))))))))))))))))))))))))))))))))))))))))))))))))))))))))))))))))))))))))))))))))))))))))))))))))))))))))))))))))))))))))))))))))))))))))))))))))))))))))))))))))))))))))))))))))))))))))))))))))))))))))))))))))))))))))))))))))))))))
    (eqI 0 0 (eqI 0 0 (eqL true true (eqI 0 0 (need (inI 0 4) (need (inI 0 4) (need (inI 0 1) (need (inI 0 1) (need (inI 0 3) (eqI 0 0 (eqI 9 9 (need (inI 0 3) (need
    (AV.rptr 0 (Ty.int IntKind.i64) 0 0 = AV.rptr 0 (Ty.int IntKind.i64) 0 0) (need (inI 0 3) (need (nzI 3) (eqI 0 0 (eqI 1 1 (eqI 3 3 (need (nzI 3) (eqI 1 1 (eqI 0
    0 (eqI 1 1 (eqI 3 3 (eqI 1 1 (eqI 9 9 (eqI 0 0 (eqI 9 9 (eqI 0 0 (eqI 1 1 (eqI 0 0 (eqI 9 9 (eqI 0 0 (need (nzI 3) (need (inI 0 3) (eqI 1 1 (eqI 9 9 (eqI 0 0 (need
    (AV.rptr 2 ((Ty.int IntKind.i64).prod (Ty.int IntKind.i64)) 0 0 = AV.rptr 2 ((Ty.int IntKind.i64).prod (Ty.int IntKind.i64)) 0 0) (need (inI 0 3) (eqI 9 9 (eqI 0
    0 (eqI 9 9 (eqI 0 0 (eqI 9 9 (eqI 0 0 (eqI 1 1 (eqI 0 0 (eqI 9 9 (eqI 0 0 (need (nzI 3) (need (inI 0 3) (eqI 1 1 (eqI 9 9 (eqI 0 0 (need (AV.rptr 4 ((Ty.int IntKind.i64).prod
    (Ty.int IntKind.i64)) 0 0 = AV.rptr 4 ((Ty.int IntKind.i64).prod (Ty.int IntKind.i64)) 0 0) (need (inI 0 3) (eqI 9 9 (eqI 0 0 (need (inI 1 4) (need (inI 1 4) (need
    (inI 0 1) (need (inI 0 1) (need (inI 1 3) (eqI 1 1 (eqI 1 1 (need (inI 1 3) (need (AV.rptr 0 (Ty.int IntKind.i64) 1 0 = AV.rptr 0 (Ty.int IntKind.i64) 1 0) (need
    (inI 1 3) (need (nzI 3) (eqI 1 1 (eqI 2 2 (eqI 3 3 (need (nzI 3) (eqI 2 2 (eqI 1 1 (eqI 2 2 (eqI 3 3 (eqI 2 2 (eqI 1 1 (eqI 1 1 (eqI 1 1 (eqI 1 1 (need (nzI 3) (need
    (inI 0 3) (need (inI 0 3) (eqI 2 2 (eqI 1 1 (eqI 1 1 (eqI 1 1 (need (nzI 3) (need (inI 1 3) (eqI 2 2 (eqI 1 1 (eqI 1 1 (need (AV.rptr 2 ((Ty.int IntKind.i64).prod
    (Ty.int IntKind.i64)) 1 0 = AV.rptr 2 ((Ty.int IntKind.i64).prod (Ty.int IntKind.i64)) 1 0) (need (inI 1 3) (eqI 1 1 (eqI 1 1 (eqI 1 1 (eqI 1 1 (eqI 1 1 (eqI 1 1
    (need (nzI 3) (need (inI 0 3) (need (inI 0 3) (eqI 1 1 (eqI 0 0 (eqI 1 1 (eqI 1 1 (need (nzI 3) (need (inI 0 3) (eqI 1 1 (eqI 1 1 (eqI 1 1 (need (AV.rptr 4 ((Ty.int
    IntKind.i64).prod (Ty.int IntKind.i64)) 0 0 = AV.rptr 4 ((Ty.int IntKind.i64).prod (Ty.int IntKind.i64)) 0 0) (need (inI 0 3) (eqI 1 1 (eqI 1 1 (need (inI 2 4) (need
    (inI 2 4) (need (inI 0 1) (need (inI 0 1) (need (inI 2 3) (eqI 2 2 (eqI 2 2 (need (inI 2 3) (need (AV.rptr 0 (Ty.int IntKind.i64) 2 0 = AV.rptr 0 (Ty.int IntKind.i64)
    2 0) (need (inI 2 3) (need (nzI 3) (eqI 2 2 (eqI 3 3 (eqI 3 3 (need (nzI 3) (eqI 0 0 (eqI 2 2 (eqI 3 3 (eqI 3 3 (eqI 3 3 (eqI 2 2 (eqI 2 2 (eqI 2 2 (eqI 2 2 (need
    (nzI 3) (need (inI 1 3) (need (inI 1 3) (need (nzI 3) (need (inI 0 3) (need (inI 0 3) (eqI 2 2 (eqI 1 1 (eqI 2 2 (eqI 2 2 (need (nzI 3) (need (inI 1 3) (eqI 2 2
    (eqI 2 2 (eqI 2 2 (need (AV.rptr 2 ((Ty.int IntKind.i64).prod (Ty.int IntKind.i64)) 1 0 = AV.rptr 2 ((Ty.int IntKind.i64).prod (Ty.int IntKind.i64)) 1 0) (need (inI
    1 3) (eqI 2 2 (eqI 2 2 (eqI 2 2 (eqI 2 2 (eqI 2 2 (eqI 2 2 (need (nzI 3) (need (inI 0 3) (need (inI 0 3) (eqI 2 2 (eqI 1 1 (eqI 2 2 (eqI 2 2 (need (nzI 3) (need
    (inI 1 3) (eqI 2 2 (eqI 2 2 (eqI 2 2 (need (AV.rptr 4 ((Ty.int IntKind.i64).prod (Ty.int IntKind.i64)) 1 0 = AV.rptr 4 ((Ty.int IntKind.i64).prod (Ty.int IntKind.i64))
    1 0) (need (inI 1 3) (eqI 2 2 (eqI 2 2 (need (inI 3 4) (need (inI 3 4) (need (inI 0 1) (need (inI 0 1) (need (inI 0 3) (eqI 0 0 (eqI 3 3 (need (inI 0 3) (need (AV.rptr
    0 (Ty.int IntKind.i64) 0 0 = AV.rptr 0 (Ty.int IntKind.i64) 0 0) (need (inI 0 3) (need (nzI 3) (eqI 0 0 (eqI 1 1 (eqI 3 3 (need (nzI 3) (eqI 1 1 (eqI 3 3 (eqI 4
    4 (eqI 3 3 (eqI 3 3 (eqI 3 3 (eqI 3 3 (eqI 3 3 (eqI 3 3 (need (nzI 3) (need (inI 1 3) (need (inI 1 3) (need (nzI 3) (need (inI 0 3) (need (inI 0 3) (eqI 2 2 (eqI
    1 1 (eqI 3 3 (eqI 3 3 (need (nzI 3) (need (inI 1 3) (eqI 2 2 (eqI 3 3 (eqI 3 3 (need (AV.rptr 2 ((Ty.int IntKind.i64).prod (Ty.int IntKind.i64)) 1 0 = AV.rptr 2
    ((Ty.int IntKind.i64).prod (Ty.int IntKind.i64)) 1 0) (need (inI 1 3) (eqI 3 3 (eqI 3 3 (eqI 3 3 (eqI 3 3 (eqI 3 3 (eqI 3 3 (need (nzI 3) (need (inI 1 3) (need (inI
    1 3) (eqI 3 3 (eqI 2 2 (eqI 3 3 (eqI 3 3 (need (nzI 3) (need (inI 2 3) (eqI 3 3 (eqI 3 3 (eqI 3 3 (need (AV.rptr 4 ((Ty.int IntKind.i64).prod (Ty.int IntKind.i64))
    2 0 = AV.rptr 4 ((Ty.int IntKind.i64).prod (Ty.int IntKind.i64)) 2 0) (need (inI 2 3) (eqI 3 3 (eqI 3 3 (need (AV.fn (Fn.func 35) (@List.nil AV) (@List.nil AV) =
    AV.fn (Fn.func 35) (@List.nil AV) (@List.nil AV)) (eqI 4 4 (eqI 4 4 (eqI 4 4 (eqI 1 1 (need (nzI 3) (need (inI 0 3) (need (inI 0 3) (need (nzI 3) (eqI 0 0 (eqI 1
    1 (eqI 3 3 (need (nzI 3) (eqI 1 1 (eqI 2 2 (eqI 1 1 (eqI 1 1 (need (nzI 3) (need (inI 1 3) (need (inI 1 3) (need (nzI 3) (need (inI 1 3) (need (inI 1 3) (eqI 4 4
    (eqI 3 3 (eqL true true (eqI 3 3 (eqL true true (eqL true true (need (nzI 3) (need (inI 1 3) (need (inI 1 3) (need (inI 0 1) (need (inI 0 1) (eqI 0 0 (eqI 1 1 (eqI
    5 5 (eqI 0 0 (eqI 5 5 (eqI 1 1 (eqI 1 1 (need (inI 0 2) (need (inI 0 2) (eqI 1 1 (eqI 3 3 (eqI 5 5 (eqI 1 1 (eqI 4 4 (eqI 3 3 (eqI 4 4 (need (inI 1 2) (need (inI
    1 2) (eqI 4 4 (eqI 9 9 (eqI 5 5 (eqI 4 4 (eqI 1 1 (eqI 1 1 (eqI 5 5 (AOut.ret (AV.bool true) = AOut.ret (AV.bool true)))))))))))))))))))))))))))))))))))))))))))))))))))))))))))))))))))))))))))))))))))))))))))))))))))))))))))))))))))))))))))))))))))))))))))))))))))))))))))))))))))))))))))))))))))))))))))))))))))))))))))))))))))))))))))))))))))))))))))))))))))))))))))))))))))))))))))))))))))))))))))))))))))))))))))))))))))))))))))))))))))
    (eqI 3 3 (need (geZ 3) (need (fitA 3) (eqI 3 3 (eqI 0 0 (eqI 0 0 (eqL false false (need (eqI 3 3 (need (geZ 3) (need (fitA 3) (eqI 0 0 (eqI 0 0 (eqL false false
    (eqI 0 0 (eqI 0 0 (eqL true true (need (eqI 0 0 (eqI 0 0 (eqL false false (eqI 0 0 (need (inI 0 4) (need (inI 0 4) (need (inI 0 1) (need (inI 0 1) (need (inI 0 3)
    (eqI 0 0 (eqI 9 9 (need (inI 0 3) (need (AV.rptr 0 (Ty.int IntKind.i64) 0 0 = AV.rptr 0 (Ty.int IntKind.i64) 0 0) (need (inI 0 3) (need (nzI 3) (eqI 0 0 (eqI 1 1
    (eqI 3 3 (need (nzI 3) (eqI 1 1 (eqI 0 0 (eqI 1 1 (eqI 3 3 (eqI 1 1 (eqI 9 9 (eqI 0 0 (eqI 9 9 (eqI 0 0 (eqI 1 1 (eqI 0 0 (eqI 9 9 (eqI 0 0 (need (nzI 3) (need (inI
    0 3) (eqI 1 1 (eqI 9 9 (eqI 0 0 (need (AV.rptr 2 ((Ty.int IntKind.i64).prod (Ty.int IntKind.i64)) 0 0 = AV.rptr 2 ((Ty.int IntKind.i64).prod (Ty.int IntKind.i64))
    0 0) (need (inI 0 3) (eqI 9 9 (eqI 0 0 (eqI 9 9 (eqI 0 0 (eqI 9 9 (eqI 0 0 (eqI 1 1 (eqI 0 0 (eqI 9 9 (eqI 0 0 (need (nzI 3) (need (inI 0 3) (eqI 1 1 (eqI 9 9 (eqI
    0 0 (need (AV.rptr 4 ((Ty.int IntKind.i64).prod (Ty.int IntKind.i64)) 0 0 = AV.rptr 4 ((Ty.int IntKind.i64).prod (Ty.int IntKind.i64)) 0 0) (need (inI 0 3) (eqI
    9 9 (eqI 0 0 (need (inI 1 4) (need (inI 1 4) (need (inI 0 1) (need (inI 0 1) (need (inI 1 3) (eqI 1 1 (eqI 1 1 (need (inI 1 3) (need (AV.rptr 0 (Ty.int IntKind.i64)
    1 0 = AV.rptr 0 (Ty.int IntKind.i64) 1 0) (need (inI 1 3) (need (nzI 3) (eqI 1 1 (eqI 2 2 (eqI 3 3 (need (nzI 3) (eqI 2 2 (eqI 1 1 (eqI 2 2 (eqI 3 3 (eqI 2 2 (eqI
    1 1 (eqI 1 1 (eqI 1 1 (eqI 1 1 (need (nzI 3) (need (inI 0 3) (need (inI 0 3) (eqI 2 2 (eqI 1 1 (eqI 1 1 (eqI 1 1 (need (nzI 3) (need (inI 1 3) (eqI 2 2 (eqI 1 1
    (eqI 1 1 (need (AV.rptr 2 ((Ty.int IntKind.i64).prod (Ty.int IntKind.i64)) 1 0 = AV.rptr 2 ((Ty.int IntKind.i64).prod (Ty.int IntKind.i64)) 1 0) (need (inI 1 3)
    (eqI 1 1 (eqI 1 1 (eqI 1 1 (eqI 1 1 (eqI 1 1 (eqI 1 1 (need (nzI 3) (need (inI 0 3) (need (inI 0 3) (eqI 1 1 (eqI 0 0 (eqI 1 1 (eqI 1 1 (need (nzI 3) (need (inI
    0 3) (eqI 1 1 (eqI 1 1 (eqI 1 1 (need (AV.rptr 4 ((Ty.int IntKind.i64).prod (Ty.int IntKind.i64)) 0 0 = AV.rptr 4 ((Ty.int IntKind.i64).prod (Ty.int IntKind.i64))
    0 0) (need (inI 0 3) (eqI 1 1 (eqI 1 1 (need (inI 2 4) (need (inI 2 4) (need (inI 0 1) (need (inI 0 1) (need (inI 2 3) (eqI 2 2 (eqI 2 2 (need (inI 2 3) (need (AV.rptr
    0 (Ty.int IntKind.i64) 2 0 = AV.rptr 0 (Ty.int IntKind.i64) 2 0) (need (inI 2 3) (need (nzI 3) (eqI 2 2 (eqI 3 3 (eqI 3 3 (need (nzI 3) (eqI 0 0 (eqI 2 2 (eqI 3
    3 (eqI 3 3 (eqI 3 3 (eqI 2 2 (eqI 2 2 (eqI 2 2 (eqI 2 2 (need (nzI 3) (need (inI 1 3) (need (inI 1 3) (need (nzI 3) (need (inI 0 3) (need (inI 0 3) (eqI 2 2 (eqI
    1 1 (eqI 2 2 (eqI 2 2 (need (nzI 3) (need (inI 1 3) (eqI 2 2 (eqI 2 2 (eqI 2 2 (need (AV.rptr 2 ((Ty.int IntKind.i64).prod (Ty.int IntKind.i64)) 1 0 = AV.rptr 2
    ((Ty.int IntKind.i64).prod (Ty.int IntKind.i64)) 1 0) (need (inI 1 3) (eqI 2 2 (eqI 2 2 (eqI 2 2 (eqI 2 2 (eqI 2 2 (eqI 2 2 (need (nzI 3) (need (inI 0 3) (need (inI
    0 3) (eqI 2 2 (eqI 1 1 (eqI 2 2 (eqI 2 2 (need (nzI 3) (need (inI 1 3) (eqI 2 2 (eqI 2 2 (eqI 2 2 (need (AV.rptr 4 ((Ty.int IntKind.i64).prod (Ty.int IntKind.i64))
    1 0 = AV.rptr 4 ((Ty.int IntKind.i64).prod (Ty.int IntKind.i64)) 1 0) (need (inI 1 3) (eqI 2 2 (eqI 2 2 (need (inI 3 4) (need (inI 3 4) (need (inI 0 1) (need (inI
    0 1) (need (inI 0 3) (eqI 0 0 (eqI 3 3 (need (inI 0 3) (need (AV.rptr 0 (Ty.int IntKind.i64) 0 0 = AV.rptr 0 (Ty.int IntKind.i64) 0 0) (need (inI 0 3) (need (nzI
    3) (eqI 0 0 (eqI 1 1 (eqI 3 3 (need (nzI 3) (eqI 1 1 (eqI 3 3 (eqI 4 4 (eqI 3 3 (eqI 3 3 (eqI 3 3 (eqI 3 3 (eqI 3 3 (eqI 3 3 (need (nzI 3) (need (inI 1 3) (need
    (inI 1 3) (need (nzI 3) (need (inI 0 3) (need (inI 0 3) (eqI 2 2 (eqI 1 1 (eqI 3 3 (eqI 3 3 (need (nzI 3) (need (inI 1 3) (eqI 2 2 (eqI 3 3 (eqI 3 3 (need (AV.rptr
    2 ((Ty.int IntKind.i64).prod (Ty.int IntKind.i64)) 1 0 = AV.rptr 2 ((Ty.int IntKind.i64).prod (Ty.int IntKind.i64)) 1 0) (need (inI 1 3) (eqI 3 3 (eqI 3 3 (eqI 3
    3 (eqI 3 3 (eqI 3 3 (eqI 3 3 (need (nzI 3) (need (inI 1 3) (need (inI 1 3) (eqI 3 3 (eqI 2 2 (eqI 3 3 (eqI 3 3 (need (nzI 3) (need (inI 2 3) (eqI 3 3 (eqI 3 3 (eqI
    3 3 (need (AV.rptr 4 ((Ty.int IntKind.i64).prod (Ty.int IntKind.i64)) 2 0 = AV.rptr 4 ((Ty.int IntKind.i64).prod (Ty.int IntKind.i64)) 2 0) (need (inI 2 3) (eqI
    3 3 (eqI 3 3 (need (AV.fn (Fn.func 35) (@List.nil AV) (@List.nil AV) = AV.fn (Fn.func 35) (@List.nil AV) (@List.nil AV)) (eqI 4 4 (eqI 4 4 (eqI 4 4 (eqI 1 1 (need
    (nzI 3) (need (inI 0 3) (need (inI 0 3) (need (nzI 3) (eqI 0 0 (eqI 1 1 (eqI 3 3 (need (nzI 3) (eqI 1 1 (eqI 2 2 (eqI 1 1 (eqI 1 1 (need (nzI 3) (need (inI 1 3)
    (need (inI 1 3) (need (nzI 3) (need (inI 1 3) (need (inI 1 3) (eqI 4 4 (eqI 3 3 (eqL true true (eqI 3 3 (eqL true true (eqL true true (need (nzI 3) (need (inI 1
    3) (need (inI 1 3) (need (inI 0 1) (need (inI 0 1) (eqI 0 0 (eqI 1 1 (eqI 5 5 (eqI 0 0 (eqI 5 5 (eqI 1 1 (eqI 1 1 (need (inI 0 2) (need (inI 0 2) (eqI 1 1 (eqI 3
    3 (eqI 5 5 (eqI 1 1 (eqI 4 4 (eqI 3 3 (eqI 4 4 (need (inI 1 2) (need (inI 1 2) (eqI 4 4 (eqI 9 9 (eqI 5 5 (eqI 4 4 (eqI 1 1 (eqI 1 1 (eqI 5 5 (AOut.ret (AV.bool
    true) = AOut.ret (AV.bool true)))))))))))))))))))))))))))))))))))))))))))))))))))))))))))))))))))))))))))))))))))))))))))))))))))))))))))))))))))))))))))))))))))))))))))))))))))))))))))))))))))))))))))))))))))))))))))))))))))))))))))))))))))))))))))))))))))))))))))))))))))))))))))))))))))))))))))))))))))))))))))))))))))))))))))))))))
    (eqI 0 0 (eqI 0 0 (eqL true true (eqI 0 0 (need (inI 0 4) (need (inI 0 4) (need (inI 0 1) (need (inI 0 1) (need (inI 0 3) (eqI 0 0 (eqI 9 9 (need (inI 0 3) (need
    (AV.rptr 0 (Ty.int IntKind.i64) 0 0 = AV.rptr 0 (Ty.int IntKind.i64) 0 0) (need (inI 0 3) (need (nzI 3) (eqI 0 0 (eqI 1 1 (eqI 3 3 (need (nzI 3) (eqI 1 1 (eqI 0
    0 (eqI 1 1 (eqI 3 3 (eqI 1 1 (eqI 9 9 (eqI 0 0 (eqI 9 9 (eqI 0 0 (eqI 1 1 (eqI 0 0 (eqI 9 9 (eqI 0 0 (need (nzI 3) (need (inI 0 3) (eqI 1 1 (eqI 9 9 (eqI 0 0 (need
    (AV.rptr 2 ((Ty.int IntKind.i64).prod (Ty.int IntKind.i64)) 0 0 = AV.rptr 2 ((Ty.int IntKind.i64).prod (Ty.int IntKind.i64)) 0 0) (need (inI 0 3) (eqI 9 9 (eqI 0
    0 (eqI 9 9 (eqI 0 0 (eqI 9 9 (eqI 0 0 (eqI 1 1 (eqI 0 0 (eqI 9 9 (eqI 0 0 (need (nzI 3) (need (inI 0 3) (eqI 1 1 (eqI 9 9 (eqI 0 0 (need (AV.rptr 4 ((Ty.int IntKind.i64).prod
    (Ty.int IntKind.i64)) 0 0 = AV.rptr 4 ((Ty.int IntKind.i64).prod (Ty.int IntKind.i64)) 0 0) (need (inI 0 3) (eqI 9 9 (eqI 0 0 (need (inI 1 4) (need (inI 1 4) (need
    (inI 0 1) (need (inI 0 1) (need (inI 1 3) (eqI 1 1 (eqI 1 1 (need (inI 1 3) (need (AV.rptr 0 (Ty.int IntKind.i64) 1 0 = AV.rptr 0 (Ty.int IntKind.i64) 1 0) (need
    (inI 1 3) (need (nzI 3) (eqI 1 1 (eqI 2 2 (eqI 3 3 (need (nzI 3) (eqI 2 2 (eqI 1 1 (eqI 2 2 (eqI 3 3 (eqI 2 2 (eqI 1 1 (eqI 1 1 (eqI 1 1 (eqI 1 1 (need (nzI 3) (need
    (inI 0 3) (need (inI 0 3) (eqI 2 2 (eqI 1 1 (eqI 1 1 (eqI 1 1 (need (nzI 3) (need (inI 1 3) (eqI 2 2 (eqI 1 1 (eqI 1 1 (need (AV.rptr 2 ((Ty.int IntKind.i64).prod
    (Ty.int IntKind.i64)) 1 0 = AV.rptr 2 ((Ty.int IntKind.i64).prod (Ty.int IntKind.i64)) 1 0) (need (inI 1 3) (eqI 1 1 (eqI 1 1 (eqI 1 1 (eqI 1 1 (eqI 1 1 (eqI 1 1
    (need (nzI 3) (need (inI 0 3) (need (inI 0 3) (eqI 1 1 (eqI 0 0 (eqI 1 1 (eqI 1 1 (need (nzI 3) (need (inI 0 3) (eqI 1 1 (eqI 1 1 (eqI 1 1 (need (AV.rptr 4 ((Ty.int
    IntKind.i64).prod (Ty.int IntKind.i64)) 0 0 = AV.rptr 4 ((Ty.int IntKind.i64).prod (Ty.int IntKind.i64)) 0 0) (need (inI 0 3) (eqI 1 1 (eqI 1 1 (need (inI 2 4) (need
    (inI 2 4) (need (inI 0 1) (need (inI 0 1) (need (inI 2 3) (eqI 2 2 (eqI 2 2 (need (inI 2 3) (need (AV.rptr 0 (Ty.int IntKind.i64) 2 0 = AV.rptr 0 (Ty.int IntKind.i64)
    2 0) (need (inI 2 3) (need (nzI 3) (eqI 2 2 (eqI 3 3 (eqI 3 3 (need (nzI 3) (eqI 0 0 (eqI 2 2 (eqI 3 3 (eqI 3 3 (eqI 3 3 (eqI 2 2 (eqI 2 2 (eqI 2 2 (eqI 2 2 (need
    (nzI 3) (need (inI 1 3) (need (inI 1 3) (need (nzI 3) (need (inI 0 3) (need (inI 0 3) (eqI 2 2 (eqI 1 1 (eqI 2 2 (eqI 2 2 (need (nzI 3) (need (inI 1 3) (eqI 2 2
    (eqI 2 2 (eqI 2 2 (need (AV.rptr 2 ((Ty.int IntKind.i64).prod (Ty.int IntKind.i64)) 1 0 = AV.rptr 2 ((Ty.int IntKind.i64).prod (Ty.int IntKind.i64)) 1 0) (need (inI
    1 3) (eqI 2 2 (eqI 2 2 (eqI 2 2 (eqI 2 2 (eqI 2 2 (eqI 2 2 (need (nzI 3) (need (inI 0 3) (need (inI 0 3) (eqI 2 2 (eqI 1 1 (eqI 2 2 (eqI 2 2 (need (nzI 3) (need
    (inI 1 3) (eqI 2 2 (eqI 2 2 (eqI 2 2 (need (AV.rptr 4 ((Ty.int IntKind.i64).prod (Ty.int IntKind.i64)) 1 0 = AV.rptr 4 ((Ty.int IntKind.i64).prod (Ty.int IntKind.i64))
    1 0) (need (inI 1 3) (eqI 2 2 (eqI 2 2 (need (inI 3 4) (need (inI 3 4) (need (inI 0 1) (need (inI 0 1) (need (inI 0 3) (eqI 0 0 (eqI 3 3 (need (inI 0 3) (need (AV.rptr
    0 (Ty.int IntKind.i64) 0 0 = AV.rptr 0 (Ty.int IntKind.i64) 0 0) (need (inI 0 3) (need (nzI 3) (eqI 0 0 (eqI 1 1 (eqI 3 3 (need (nzI 3) (eqI 1 1 (eqI 3 3 (eqI 4
    4 (eqI 3 3 (eqI 3 3 (eqI 3 3 (eqI 3 3 (eqI 3 3 (eqI 3 3 (need (nzI 3) (need (inI 1 3) (need (inI 1 3) (need (nzI 3) (need (inI 0 3) (need (inI 0 3) (eqI 2 2 (eqI
    1 1 (eqI 3 3 (eqI 3 3 (need (nzI 3) (need (inI 1 3) (eqI 2 2 (eqI 3 3 (eqI 3 3 (need (AV.rptr 2 ((Ty.int IntKind.i64).prod (Ty.int IntKind.i64)) 1 0 = AV.rptr 2
    ((Ty.int IntKind.i64).prod (Ty.int IntKind.i64)) 1 0) (need (inI 1 3) (eqI 3 3 (eqI 3 3 (eqI 3 3 (eqI 3 3 (eqI 3 3 (eqI 3 3 (need (nzI 3) (need (inI 1 3) (need (inI
    1 3) (eqI 3 3 (eqI 2 2 (eqI 3 3 (eqI 3 3 (need (nzI 3) (need (inI 2 3) (eqI 3 3 (eqI 3 3 (eqI 3 3 (need (AV.rptr 4 ((Ty.int IntKind.i64).prod (Ty.int IntKind.i64))
    2 0 = AV.rptr 4 ((Ty.int IntKind.i64).prod (Ty.int IntKind.i64)) 2 0) (need (inI 2 3) (eqI 3 3 (eqI 3 3 (need (AV.fn (Fn.func 35) (@List.nil AV) (@List.nil AV) =
    AV.fn (Fn.func 35) (@List.nil AV) (@List.nil AV)) (eqI 4 4 (eqI 4 4 (eqI 4 4 (eqI 1 1 (need (nzI 3) (need (inI 0 3) (need (inI 0 3) (need (nzI 3) (eqI 0 0 (eqI 1
    1 (eqI 3 3 (need (nzI 3) (eqI 1 1 (eqI 2 2 (eqI 1 1 (eqI 1 1 (need (nzI 3) (need (inI 1 3) (need (inI 1 3) (need (nzI 3) (need (inI 1 3) (need (inI 1 3) (eqI 4 4
    (eqI 3 3 (eqL true true (eqI 3 3 (eqL true true (eqL true true (need (nzI 3) (need (inI 1 3) (need (inI 1 3) (need (inI 0 1) (need (inI 0 1) (eqI 0 0 (eqI 1 1 (eqI
    5 5 (eqI 0 0 (eqI 5 5 (eqI 1 1 (eqI 1 1 (need (inI 0 2) (need (inI 0 2) (eqI 1 1 (eqI 3 3 (eqI 5 5 (eqI 1 1 (eqI 4 4 (eqI 3 3 (eqI 4 4 (need (inI 1 2) (need (inI
    1 2) (eqI 4 4 (eqI 9 9 (eqI 5 5 (eqI 4 4 (eqI 1 1 (eqI 1 1 (eqI 5 5 (AOut.ret (AV.bool true) = AOut.ret (AV.bool true)))))))))))))))))))))))))))))))))))))))))))))))))))))))))))))))))))))))))))))))))))))))))))))))))))))))))))))))))))))))))))))))))))))))))))))))))))))))))))))))))))))))))))))))))))))))))))))))))))))))))))))))))))))))))))))))))))))))))))))))))))))))))))))))))))))))))))))))))))))))))))))))))))))))))))))))))))))))))))
    (eqI 3 3 (eqI 3 3 (need (geZ 3) (need (fitA 3) (eqI 0 0 (eqI 0 0 (eqL true true (eqI 0 0 (need (inI 0 4) (need (inI 0 4) (need (inI 0 1) (need (inI 0 1) (need (inI
    0 3) (eqI 0 0 (eqI 9 9 (need (inI 0 3) (need (AV.rptr 0 (Ty.int IntKind.i64) 0 0 = AV.rptr 0 (Ty.int IntKind.i64) 0 0) (need (inI 0 3) (need (nzI 3) (eqI 0 0 (eqI
    1 1 (eqI 3 3 (need (nzI 3) (eqI 1 1 (eqI 0 0 (eqI 1 1 (eqI 3 3 (eqI 1 1 (eqI 9 9 (eqI 0 0 (eqI 9 9 (eqI 0 0 (eqI 1 1 (eqI 0 0 (eqI 9 9 (eqI 0 0 (need (nzI 3) (need
    (inI 0 3) (eqI 1 1 (eqI 9 9 (eqI 0 0 (need (AV.rptr 2 ((Ty.int IntKind.i64).prod (Ty.int IntKind.i64)) 0 0 = AV.rptr 2 ((Ty.int IntKind.i64).prod (Ty.int IntKind.i64))
    0 0) (need (inI 0 3) (eqI 9 9 (eqI 0 0 (eqI 9 9 (eqI 0 0 (eqI 9 9 (eqI 0 0 (eqI 1 1 (eqI 0 0 (eqI 9 9 (eqI 0 0 (need (nzI 3) (need (inI 0 3) (eqI 1 1 (eqI 9 9 (eqI
    0 0 (need (AV.rptr 4 ((Ty.int IntKind.i64).prod (Ty.int IntKind.i64)) 0 0 = AV.rptr 4 ((Ty.int IntKind.i64).prod (Ty.int IntKind.i64)) 0 0) (need (inI 0 3) (eqI
    9 9 (eqI 0 0 (need (inI 1 4) (need (inI 1 4) (need (inI 0 1) (need (inI 0 1) (need (inI 1 3) (eqI 1 1 (eqI 1 1 (need (inI 1 3) (need (AV.rptr 0 (Ty.int IntKind.i64)
    1 0 = AV.rptr 0 (Ty.int IntKind.i64) 1 0) (need (inI 1 3) (need (nzI 3) (eqI 1 1 (eqI 2 2 (eqI 3 3 (need (nzI 3) (eqI 2 2 (eqI 1 1 (eqI 2 2 (eqI 3 3 (eqI 2 2 (eqI
    1 1 (eqI 1 1 (eqI 1 1 (eqI 1 1 (need (nzI 3) (need (inI 0 3) (need (inI 0 3) (eqI 2 2 (eqI 1 1 (eqI 1 1 (eqI 1 1 (need (nzI 3) (need (inI 1 3) (eqI 2 2 (eqI 1 1
    (eqI 1 1 (need (AV.rptr 2 ((Ty.int IntKind.i64).prod (Ty.int IntKind.i64)) 1 0 = AV.rptr 2 ((Ty.int IntKind.i64).prod (Ty.int IntKind.i64)) 1 0) (need (inI 1 3)
    (eqI 1 1 (eqI 1 1 (eqI 1 1 (eqI 1 1 (eqI 1 1 (eqI 1 1 (need (nzI 3) (need (inI 0 3) (need (inI 0 3) (eqI 1 1 (eqI 0 0 (eqI 1 1 (eqI 1 1 (need (nzI 3) (need (inI
    0 3) (eqI 1 1 (eqI 1 1 (eqI 1 1 (need (AV.rptr 4 ((Ty.int IntKind.i64).prod (Ty.int IntKind.i64)) 0 0 = AV.rptr 4 ((Ty.int IntKind.i64).prod (Ty.int IntKind.i64))
    0 0) (need (inI 0 3) (eqI 1 1 (eqI 1 1 (need (inI 2 4) (need (inI 2 4) (need (inI 0 1) (need (inI 0 1) (need (inI 2 3) (eqI 2 2 (eqI 2 2 (need (inI 2 3) (need (AV.rptr
    0 (Ty.int IntKind.i64) 2 0 = AV.rptr 0 (Ty.int IntKind.i64) 2 0) (need (inI 2 3) (need (nzI 3) (eqI 2 2 (eqI 3 3 (eqI 3 3 (need (nzI 3) (eqI 0 0 (eqI 2 2 (eqI 3
    3 (eqI 3 3 (eqI 3 3 (eqI 2 2 (eqI 2 2 (eqI 2 2 (eqI 2 2 (need (nzI 3) (need (inI 1 3) (need (inI 1 3) (need (nzI 3) (need (inI 0 3) (need (inI 0 3) (eqI 2 2 (eqI
    1 1 (eqI 2 2 (eqI 2 2 (need (nzI 3) (need (inI 1 3) (eqI 2 2 (eqI 2 2 (eqI 2 2 (need (AV.rptr 2 ((Ty.int IntKind.i64).prod (Ty.int IntKind.i64)) 1 0 = AV.rptr 2
    ((Ty.int IntKind.i64).prod (Ty.int IntKind.i64)) 1 0) (need (inI 1 3) (eqI 2 2 (eqI 2 2 (eqI 2 2 (eqI 2 2 (eqI 2 2 (eqI 2 2 (need (nzI 3) (need (inI 0 3) (need (inI
    0 3) (eqI 2 2 (eqI 1 1 (eqI 2 2 (eqI 2 2 (need (nzI 3) (need (inI 1 3) (eqI 2 2 (eqI 2 2 (eqI 2 2 (need (AV.rptr 4 ((Ty.int IntKind.i64).prod (Ty.int IntKind.i64))
    1 0 = AV.rptr 4 ((Ty.int IntKind.i64).prod (Ty.int IntKind.i64)) 1 0) (need (inI 1 3) (eqI 2 2 (eqI 2 2 (need (inI 3 4) (need (inI 3 4) (need (inI 0 1) (need (inI
    0 1) (need (inI 0 3) (eqI 0 0 (eqI 3 3 (need (inI 0 3) (need (AV.rptr 0 (Ty.int IntKind.i64) 0 0 = AV.rptr 0 (Ty.int IntKind.i64) 0 0) (need (inI 0 3) (need (nzI
    3) (eqI 0 0 (eqI 1 1 (eqI 3 3 (need (nzI 3) (eqI 1 1 (eqI 3 3 (eqI 4 4 (eqI 3 3 (eqI 3 3 (eqI 3 3 (eqI 3 3 (eqI 3 3 (eqI 3 3 (need (nzI 3) (need (inI 1 3) (need
    (inI 1 3) (need (nzI 3) (need (inI 0 3) (need (inI 0 3) (eqI 2 2 (eqI 1 1 (eqI 3 3 (eqI 3 3 (need (nzI 3) (need (inI 1 3) (eqI 2 2 (eqI 3 3 (eqI 3 3 (need (AV.rptr
    2 ((Ty.int IntKind.i64).prod (Ty.int IntKind.i64)) 1 0 = AV.rptr 2 ((Ty.int IntKind.i64).prod (Ty.int IntKind.i64)) 1 0) (need (inI 1 3) (eqI 3 3 (eqI 3 3 (eqI 3
    3 (eqI 3 3 (eqI 3 3 (eqI 3 3 (need (nzI 3) (need (inI 1 3) (need (inI 1 3) (eqI 3 3 (eqI 2 2 (eqI 3 3 (eqI 3 3 (need (nzI 3) (need (inI 2 3) (eqI 3 3 (eqI 3 3 (eqI
    3 3 (need (AV.rptr 4 ((Ty.int IntKind.i64).prod (Ty.int IntKind.i64)) 2 0 = AV.rptr 4 ((Ty.int IntKind.i64).prod (Ty.int IntKind.i64)) 2 0) (need (inI 2 3) (eqI
    3 3 (eqI 3 3 (need (AV.fn (Fn.func 35) (@List.nil AV) (@List.nil AV) = AV.fn (Fn.func 35) (@List.nil AV) (@List.nil AV)) (eqI 4 4 (eqI 4 4 (eqI 4 4 (eqI 1 1 (need
    (nzI 3) (need (inI 0 3) (need (inI 0 3) (need (nzI 3) (eqI 0 0 (eqI 1 1 (eqI 3 3 (need (nzI 3) (eqI 1 1 (eqI 2 2 (eqI 1 1 (eqI 1 1 (need (nzI 3) (need (inI 1 3)
    (need (inI 1 3) (need (nzI 3) (need (inI 1 3) (need (inI 1 3) (eqI 4 4 (eqI 3 3 (eqL true true (eqI 3 3 (eqL true true (eqL true true (need (nzI 3) (need (inI 1
    3) (need (inI 1 3) (need (inI 0 1) (need (inI 0 1) (eqI 0 0 (eqI 1 1 (eqI 5 5 (eqI 0 0 (eqI 5 5 (eqI 1 1 (eqI 1 1 (need (inI 0 2) (need (inI 0 2) (eqI 1 1 (eqI 3
    3 (eqI 5 5 (eqI 1 1 (eqI 4 4 (eqI 3 3 (eqI 4 4 (need (inI 1 2) (need (inI 1 2) (eqI 4 4 (eqI 9 9 (eqI 5 5 (eqI 4 4 (eqI 1 1 (eqI 1 1 (eqI 5 5 (AOut.ret (AV.bool
    true) = AOut.ret (AV.bool true))))))))))))))))))))))))))))))))))))))))))))))))))))))))))))))))))))))))))))))))))))))))))))))))))))))))))))))))))))))))))))))))))))))))))))))))))))))))))))))))))))))))))))))))))))))))))))))))))))))))))))))))))))))))))))))))))))))))))))))))))))))))))))))))))))))))))))))))))))))))))))))))))))))))))))))))))))))))))))))))))) := by kernel_rfl
theorem alive_ok : SpecOK Try.prog 10 (fspecS (pureN [] aliveS)) := pureN_ok (mkCall fsOK_nil specsOK_nil fnsOK) (.any) (fun vs w => Try.call10 vs w) fun args ps v h hp hw => by
  unfold aliveS at h
  split at h
  · cases h
    rw [alive_eq]
    refine ⟨?_⟩
    simp only [allP_cons, allP_nil, and_true] at hp
    simp only [wfAL, wfA, wfS, wfM, wfB, and_true, true_and, wfT_int, wfT_str, wfT_bool, wfT_prod] at hw
    simp only [need_def, eqI_def, eqL_def, true_and, and_true]
    repeat' (first | with_reducible rfl | (unfold fitA; omega) | (unfold geZ; omega) | (unfold nzI; omega) | (unfold inI; omega) | trivial | refine ⟨?_, ?_⟩)
  · cases h
noncomputable def FF_alive : FSpec := pureN [] aliveS
theorem FFok_alive : SpecOK Try.prog 10 (fspecS FF_alive) := alive_ok
noncomputable def fs_alive : FS := (10, FF_alive) :: []
theorem fsOK_alive : FSOK Try.prog fs_alive := fsOK_cons FFok_alive fsOK_nil
end Go.Proofs.Ytgifbceiaibejaa.Sx


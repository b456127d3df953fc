/- Twins and idle ones. -/
import Derived.Test.YtkdemkkepepbdaaSmPeepA
namespace Go.Proofs.Ytkdemkkepepbdaa.Sx
open Go.RowKit
set_option maxRecDepth 100000
set_option maxHeartbeats 4000000
set_option linter.unusedVariables false
set_option linter.unusedSimpArgs false
noncomputable def twinsRS : List AV → OV := fun args => match args with | [.view [] (.prod (.int .i64) (.prod (.int .i64) (.prod (.int .i64) (.int .i64)))) l, .int .i64 i, .vptr [] [.bool b]] => some ([], .tup [.view [] CodeT (twinsL b l i), .int .i64 (twinsN b l i), .bool (twinsC b l i)]) | _ => none
theorem twinsR_eq (l : List (den CodeT)) (i : Int) (b : Bool) : acall tab fs_idle [] fns 100 20 18 [.view [] CodeT l, .int .i64 i, .vptr [] [.bool b]] [] (fun o mm _ _ => resN (.ag [.sl CodeT, .any, .any]) mm o = .ret (.tup [.view [] CodeT (twinsL b l i), .int .i64 (twinsN b l i), .bool (twinsC b l i)])) =
  (ifB (notB (areF l i (2 :: 2 :: 5 :: @List.nil (den (Ty.int IntKind.i64))))) (ifB (notB (areF l i (2 :: 2 :: 4 :: @List.nil (den (Ty.int IntKind.i64))))) (AOut.ret
    (AV.tup (AV.view [] CodeT (@List.nil (den CodeT)) :: AV.int IntKind.i64 0 :: AV.bool false :: [])) = AOut.ret (AV.tup (AV.view [] CodeT (twinsL b l i) :: AV.int
    IntKind.i64 (twinsN b l i) :: AV.bool (twinsC b l i) :: []))) (need (inI i (lenI l)) (need (inI (addW IntKind.i64 i 2) (lenI l)) (needr (AV.view [] CodeT l) (eqIr
    i (need (inI i (lenI l)) (needr (AV.vptr [] (AV.int IntKind.i64 (nth CodeT l i).fst :: AV.int IntKind.i64 (nth CodeT l i).snd.fst :: AV.int IntKind.i64 (nth CodeT
    l i).snd.snd.fst :: AV.int IntKind.i64 (nth CodeT l i).snd.snd.snd :: [])) (eqIr (nth CodeT l i).fst (eqIr (nth CodeT l i).snd.fst (eqIr (nth CodeT l i).snd.snd.fst
    (eqIr (nth CodeT l i).snd.snd.snd (needr (AV.view [] CodeT l) (eqIr i (eqIr (addW IntKind.i64 i 2) (need (inI (addW IntKind.i64 i 2) (lenI l)) (needr (AV.vptr []
    (AV.int IntKind.i64 (nth CodeT l (addW IntKind.i64 i 2)).fst :: AV.int IntKind.i64 (nth CodeT l (addW IntKind.i64 i 2)).snd.fst :: AV.int IntKind.i64 (nth CodeT
    l (addW IntKind.i64 i 2)).snd.snd.fst :: AV.int IntKind.i64 (nth CodeT l (addW IntKind.i64 i 2)).snd.snd.snd :: [])) (eqIr (nth CodeT l (addW IntKind.i64 i 2)).fst
    (eqIr (nth CodeT l (addW IntKind.i64 i 2)).snd.fst (eqIr (nth CodeT l (addW IntKind.i64 i 2)).snd.snd.fst (eqIr (nth CodeT l (addW IntKind.i64 i 2)).snd.snd.snd
    (need (needr (AV.view [] CodeT l) (eqIr i (need (inI i (lenI l)) (needr (AV.vptr [] (AV.int IntKind.i64 (nth CodeT l i).fst :: AV.int IntKind.i64 (nth CodeT l i).snd.fst
    :: AV.int IntKind.i64 (nth CodeT l i).snd.snd.fst :: AV.int IntKind.i64 (nth CodeT l i).snd.snd.snd :: [])) (eqIr (nth CodeT l i).fst (eqIr (nth CodeT l i).snd.fst
    (eqIr (nth CodeT l i).snd.snd.fst (eqIr (nth CodeT l i).snd.snd.snd (needr (AV.view [] CodeT l) (eqIr i (eqIr (addW IntKind.i64 i 2) (need (inI (addW IntKind.i64
    i 2) (lenI l)) (needr (AV.vptr [] (AV.int IntKind.i64 (nth CodeT l (addW IntKind.i64 i 2)).fst :: AV.int IntKind.i64 (nth CodeT l (addW IntKind.i64 i 2)).snd.fst
    :: AV.int IntKind.i64 (nth CodeT l (addW IntKind.i64 i 2)).snd.snd.fst :: AV.int IntKind.i64 (nth CodeT l (addW IntKind.i64 i 2)).snd.snd.snd :: [])) (eqIr (nth
    CodeT l (addW IntKind.i64 i 2)).fst (eqIr (nth CodeT l (addW IntKind.i64 i 2)).snd.fst (eqIr (nth CodeT l (addW IntKind.i64 i 2)).snd.snd.fst (eqIr (nth CodeT l
    (addW IntKind.i64 i 2)).snd.snd.snd (needr (AV.view [] CodeT l) (eqIr i (need (inI i (lenI l)) (needr (AV.vptr [] (AV.int IntKind.i64 (nth CodeT l i).fst :: AV.int
    IntKind.i64 (nth CodeT l i).snd.fst :: AV.int IntKind.i64 (nth CodeT l i).snd.snd.fst :: AV.int IntKind.i64 (nth CodeT l i).snd.snd.snd :: [])) (eqIr (nth CodeT
    l i).fst (eqIr (nth CodeT l i).snd.fst (eqIr (nth CodeT l i).snd.snd.fst (eqIr (nth CodeT l i).snd.snd.snd (needr (AV.view [] CodeT l) (eqIr i (eqIr (addW IntKind.i64
    i 2) (need (inI (addW IntKind.i64 i 2) (lenI l)) (needr (AV.vptr [] (AV.int IntKind.i64 (nth CodeT l (addW IntKind.i64 i 2)).fst :: AV.int IntKind.i64 (nth CodeT
    l (addW IntKind.i64 i 2)).snd.fst :: AV.int IntKind.i64 (nth CodeT l (addW IntKind.i64 i 2)).snd.snd.fst :: AV.int IntKind.i64 (nth CodeT l (addW IntKind.i64 i 2)).snd.snd.snd
    :: [])) (eqIr (nth CodeT l (addW IntKind.i64 i 2)).fst (eqIr (nth CodeT l (addW IntKind.i64 i 2)).snd.fst (eqIr (nth CodeT l (addW IntKind.i64 i 2)).snd.snd.fst
    (eqIr (nth CodeT l (addW IntKind.i64 i 2)).snd.snd.snd (needr (AV.view [] CodeT l) (eqIr i (eqIr (addW IntKind.i64 i 2) (need (inI (addW IntKind.i64 i 2) (lenI l))
    (needr (AV.vptr [] (AV.int IntKind.i64 (nth CodeT l (addW IntKind.i64 i 2)).fst :: AV.int IntKind.i64 (nth CodeT l (addW IntKind.i64 i 2)).snd.fst :: AV.int IntKind.i64
    (nth CodeT l (addW IntKind.i64 i 2)).snd.snd.fst :: AV.int IntKind.i64 (nth CodeT l (addW IntKind.i64 i 2)).snd.snd.snd :: [])) (eqIr (nth CodeT l (addW IntKind.i64
    i 2)).fst (eqIr (nth CodeT l (addW IntKind.i64 i 2)).snd.fst (eqIr (nth CodeT l (addW IntKind.i64 i 2)).snd.snd.fst (eqIr (nth CodeT l (addW IntKind.i64 i 2)).snd.snd.snd
    (need (inI (addW IntKind.i64 i 1) (lenI l)) (ifB (selB (selB (notB (eqB (nth CodeT l i).snd.fst (nth CodeT l (addW IntKind.i64 i 1)).snd.fst)) true (selB b (leB
    (nth CodeT l (addW IntKind.i64 i 2)).snd.fst 2) false)) true (selB (notB b) (notB (eqB (nth CodeT l (addW IntKind.i64 i 2)).snd.fst 2)) false)) (AOut.ret (AV.tup
    (AV.view [] CodeT (@List.nil (den CodeT)) :: AV.int IntKind.i64 0 :: AV.bool false :: [])) = AOut.ret (AV.tup (AV.view [] CodeT (twinsL b l i) :: AV.int IntKind.i64
    (twinsN b l i) :: AV.bool (twinsC b l i) :: []))) (ifB b (eqIr (nth CodeT l i).fst (eqIr (nth CodeT l i).snd.fst (eqIr (nth CodeT l i).snd.snd.fst (eqIr (nth CodeT
    l i).snd.snd.snd (eqIr (nth CodeT l (addW IntKind.i64 i 2)).fst (eqIr (nth CodeT l (addW IntKind.i64 i 2)).snd.fst (eqIr (nth CodeT l (addW IntKind.i64 i 2)).snd.snd.fst
    (eqIr (nth CodeT l (addW IntKind.i64 i 2)).snd.snd.snd (eqIr (nth CodeT l i).fst (eqIr (nth CodeT l i).snd.fst (eqIr (nth CodeT l i).snd.snd.fst (eqIr (nth CodeT
    l i).snd.snd.snd (AOut.ret (AV.tup (AV.view [] CodeT (((nth CodeT l i).fst, (nth CodeT l i).snd.fst, (nth CodeT l i).snd.snd.fst, (nth CodeT l i).snd.snd.snd) ::
    ((nth CodeT l (addW IntKind.i64 i 2)).fst, subW IntKind.i64 (nth CodeT l (addW IntKind.i64 i 2)).snd.fst 1, (nth CodeT l (addW IntKind.i64 i 2)).snd.snd.fst, (nth
    CodeT l (addW IntKind.i64 i 2)).snd.snd.snd) :: @List.nil (den CodeT)) :: AV.int IntKind.i64 3 :: AV.bool true :: [])) = AOut.ret (AV.tup (AV.view [] CodeT (twinsL
    b l i) :: AV.int IntKind.i64 (twinsN b l i) :: AV.bool (twinsC b l i) :: []))))))))))))))) (AOut.ret (AV.tup (AV.view [] CodeT (((nth CodeT l i).fst, (nth CodeT
    l i).snd.fst, (nth CodeT l i).snd.snd.fst, (nth CodeT l i).snd.snd.snd) :: @List.nil (den CodeT)) :: AV.int IntKind.i64 3 :: AV.bool true :: [])) = AOut.ret (AV.tup
    (AV.view [] CodeT (twinsL b l i) :: AV.int IntKind.i64 (twinsN b l i) :: AV.bool (twinsC b l i) :: []))))))))))))))))))))))))))))))))))))))))))))))))) (needr (AV.view
    [] CodeT l) (eqIr i (need (inI i (lenI l)) (needr (AV.vptr [] (AV.int IntKind.i64 (nth CodeT l i).fst :: AV.int IntKind.i64 (nth CodeT l i).snd.fst :: AV.int IntKind.i64
    (nth CodeT l i).snd.snd.fst :: AV.int IntKind.i64 (nth CodeT l i).snd.snd.snd :: [])) (eqIr (nth CodeT l i).fst (eqIr (nth CodeT l i).snd.fst (eqIr (nth CodeT l
    i).snd.snd.fst (eqIr (nth CodeT l i).snd.snd.snd (needr (AV.view [] CodeT l) (eqIr i (eqIr (addW IntKind.i64 i 2) (need (inI (addW IntKind.i64 i 2) (lenI l)) (needr
    (AV.vptr [] (AV.int IntKind.i64 (nth CodeT l (addW IntKind.i64 i 2)).fst :: AV.int IntKind.i64 (nth CodeT l (addW IntKind.i64 i 2)).snd.fst :: AV.int IntKind.i64
    (nth CodeT l (addW IntKind.i64 i 2)).snd.snd.fst :: AV.int IntKind.i64 (nth CodeT l (addW IntKind.i64 i 2)).snd.snd.snd :: [])) (eqIr (nth CodeT l (addW IntKind.i64
    i 2)).fst (eqIr (nth CodeT l (addW IntKind.i64 i 2)).snd.fst (eqIr (nth CodeT l (addW IntKind.i64 i 2)).snd.snd.fst (eqIr (nth CodeT l (addW IntKind.i64 i 2)).snd.snd.snd
    (needr (AV.view [] CodeT l) (eqIr i (need (inI i (lenI l)) (needr (AV.vptr [] (AV.int IntKind.i64 (nth CodeT l i).fst :: AV.int IntKind.i64 (nth CodeT l i).snd.fst
    :: AV.int IntKind.i64 (nth CodeT l i).snd.snd.fst :: AV.int IntKind.i64 (nth CodeT l i).snd.snd.snd :: [])) (eqIr (nth CodeT l i).fst (eqIr (nth CodeT l i).snd.fst
    (eqIr (nth CodeT l i).snd.snd.fst (eqIr (nth CodeT l i).snd.snd.snd (needr (AV.view [] CodeT l) (eqIr i (eqIr (addW IntKind.i64 i 2) (need (inI (addW IntKind.i64
    i 2) (lenI l)) (needr (AV.vptr [] (AV.int IntKind.i64 (nth CodeT l (addW IntKind.i64 i 2)).fst :: AV.int IntKind.i64 (nth CodeT l (addW IntKind.i64 i 2)).snd.fst
    :: AV.int IntKind.i64 (nth CodeT l (addW IntKind.i64 i 2)).snd.snd.fst :: AV.int IntKind.i64 (nth CodeT l (addW IntKind.i64 i 2)).snd.snd.snd :: [])) (eqIr (nth
    CodeT l (addW IntKind.i64 i 2)).fst (eqIr (nth CodeT l (addW IntKind.i64 i 2)).snd.fst (eqIr (nth CodeT l (addW IntKind.i64 i 2)).snd.snd.fst (eqIr (nth CodeT l
    (addW IntKind.i64 i 2)).snd.snd.snd (needr (AV.view [] CodeT l) (eqIr i (eqIr (addW IntKind.i64 i 2) (need (inI (addW IntKind.i64 i 2) (lenI l)) (needr (AV.vptr
    [] (AV.int IntKind.i64 (nth CodeT l (addW IntKind.i64 i 2)).fst :: AV.int IntKind.i64 (nth CodeT l (addW IntKind.i64 i 2)).snd.fst :: AV.int IntKind.i64 (nth CodeT
    l (addW IntKind.i64 i 2)).snd.snd.fst :: AV.int IntKind.i64 (nth CodeT l (addW IntKind.i64 i 2)).snd.snd.snd :: [])) (eqIr (nth CodeT l (addW IntKind.i64 i 2)).fst
    (eqIr (nth CodeT l (addW IntKind.i64 i 2)).snd.fst (eqIr (nth CodeT l (addW IntKind.i64 i 2)).snd.snd.fst (eqIr (nth CodeT l (addW IntKind.i64 i 2)).snd.snd.snd
    (need (inI (addW IntKind.i64 i 1) (lenI l)) (ifB (selB (selB (notB (eqB (nth CodeT l i).snd.fst (nth CodeT l (addW IntKind.i64 i 1)).snd.fst)) true (selB b (leB
    (nth CodeT l (addW IntKind.i64 i 2)).snd.fst 2) false)) true (selB (notB b) (notB (eqB (nth CodeT l (addW IntKind.i64 i 2)).snd.fst 2)) false)) (AOut.ret (AV.tup
    (AV.view [] CodeT (@List.nil (den CodeT)) :: AV.int IntKind.i64 0 :: AV.bool false :: [])) = AOut.ret (AV.tup (AV.view [] CodeT (twinsL b l i) :: AV.int IntKind.i64
    (twinsN b l i) :: AV.bool (twinsC b l i) :: []))) (ifB b (eqIr (nth CodeT l i).fst (eqIr (nth CodeT l i).snd.fst (eqIr (nth CodeT l i).snd.snd.fst (eqIr (nth CodeT
    l i).snd.snd.snd (eqIr (nth CodeT l (addW IntKind.i64 i 2)).fst (eqIr (nth CodeT l (addW IntKind.i64 i 2)).snd.fst (eqIr (nth CodeT l (addW IntKind.i64 i 2)).snd.snd.fst
    (eqIr (nth CodeT l (addW IntKind.i64 i 2)).snd.snd.snd (eqIr (nth CodeT l i).fst (eqIr (nth CodeT l i).snd.fst (eqIr (nth CodeT l i).snd.snd.fst (eqIr (nth CodeT
    l i).snd.snd.snd (AOut.ret (AV.tup (AV.view [] CodeT (((nth CodeT l i).fst, (nth CodeT l i).snd.fst, (nth CodeT l i).snd.snd.fst, (nth CodeT l i).snd.snd.snd) ::
    ((nth CodeT l (addW IntKind.i64 i 2)).fst, subW IntKind.i64 (nth CodeT l (addW IntKind.i64 i 2)).snd.fst 1, (nth CodeT l (addW IntKind.i64 i 2)).snd.snd.fst, (nth
    CodeT l (addW IntKind.i64 i 2)).snd.snd.snd) :: @List.nil (den CodeT)) :: AV.int IntKind.i64 3 :: AV.bool true :: [])) = AOut.ret (AV.tup (AV.view [] CodeT (twinsL
    b l i) :: AV.int IntKind.i64 (twinsN b l i) :: AV.bool (twinsC b l i) :: []))))))))))))))) (AOut.ret (AV.tup (AV.view [] CodeT (((nth CodeT l i).fst, (nth CodeT
    l i).snd.fst, (nth CodeT l i).snd.snd.fst, (nth CodeT l i).snd.snd.snd) :: @List.nil (den CodeT)) :: AV.int IntKind.i64 3 :: AV.bool true :: [])) = AOut.ret (AV.tup
    (AV.view [] CodeT (twinsL b l i) :: AV.int IntKind.i64 (twinsN b l i) :: AV.bool (twinsC b l i) :: []))))))))))))))))))))))))))))))))))))))))))))))))))))))))))))))))))))))
    (need (eqT false false) (need (inI i (lenI l)) (need (inI (addW IntKind.i64 i 2) (lenI l)) (needr (AV.view [] CodeT l) (eqIr i (need (inI i (lenI l)) (needr (AV.vptr
    [] (AV.int IntKind.i64 (nth CodeT l i).fst :: AV.int IntKind.i64 (nth CodeT l i).snd.fst :: AV.int IntKind.i64 (nth CodeT l i).snd.snd.fst :: AV.int IntKind.i64
    (nth CodeT l i).snd.snd.snd :: [])) (eqIr (nth CodeT l i).fst (eqIr (nth CodeT l i).snd.fst (eqIr (nth CodeT l i).snd.snd.fst (eqIr (nth CodeT l i).snd.snd.snd (needr
    (AV.view [] CodeT l) (eqIr i (eqIr (addW IntKind.i64 i 2) (need (inI (addW IntKind.i64 i 2) (lenI l)) (needr (AV.vptr [] (AV.int IntKind.i64 (nth CodeT l (addW IntKind.i64
    i 2)).fst :: AV.int IntKind.i64 (nth CodeT l (addW IntKind.i64 i 2)).snd.fst :: AV.int IntKind.i64 (nth CodeT l (addW IntKind.i64 i 2)).snd.snd.fst :: AV.int IntKind.i64
    (nth CodeT l (addW IntKind.i64 i 2)).snd.snd.snd :: [])) (eqIr (nth CodeT l (addW IntKind.i64 i 2)).fst (eqIr (nth CodeT l (addW IntKind.i64 i 2)).snd.fst (eqIr
    (nth CodeT l (addW IntKind.i64 i 2)).snd.snd.fst (eqIr (nth CodeT l (addW IntKind.i64 i 2)).snd.snd.snd (need (needr (AV.view [] CodeT l) (eqIr i (need (inI i (lenI
    l)) (needr (AV.vptr [] (AV.int IntKind.i64 (nth CodeT l i).fst :: AV.int IntKind.i64 (nth CodeT l i).snd.fst :: AV.int IntKind.i64 (nth CodeT l i).snd.snd.fst ::
    AV.int IntKind.i64 (nth CodeT l i).snd.snd.snd :: [])) (eqIr (nth CodeT l i).fst (eqIr (nth CodeT l i).snd.fst (eqIr (nth CodeT l i).snd.snd.fst (eqIr (nth CodeT
    l i).snd.snd.snd (needr (AV.view [] CodeT l) (eqIr i (eqIr (addW IntKind.i64 i 2) (need (inI (addW IntKind.i64 i 2) (lenI l)) (needr (AV.vptr [] (AV.int IntKind.i64
    (nth CodeT l (addW IntKind.i64 i 2)).fst :: AV.int IntKind.i64 (nth CodeT l (addW IntKind.i64 i 2)).snd.fst :: AV.int IntKind.i64 (nth CodeT l (addW IntKind.i64
    i 2)).snd.snd.fst :: AV.int IntKind.i64 (nth CodeT l (addW IntKind.i64 i 2)).snd.snd.snd :: [])) (eqIr (nth CodeT l (addW IntKind.i64 i 2)).fst (eqIr (nth CodeT
    l (addW IntKind.i64 i 2)).snd.fst (eqIr (nth CodeT l (addW IntKind.i64 i 2)).snd.snd.fst (eqIr (nth CodeT l (addW IntKind.i64 i 2)).snd.snd.snd (needr (AV.view []
    CodeT l) (eqIr i (need (inI i (lenI l)) (needr (AV.vptr [] (AV.int IntKind.i64 (nth CodeT l i).fst :: AV.int IntKind.i64 (nth CodeT l i).snd.fst :: AV.int IntKind.i64
    (nth CodeT l i).snd.snd.fst :: AV.int IntKind.i64 (nth CodeT l i).snd.snd.snd :: [])) (eqIr (nth CodeT l i).fst (eqIr (nth CodeT l i).snd.fst (eqIr (nth CodeT l
    i).snd.snd.fst (eqIr (nth CodeT l i).snd.snd.snd (needr (AV.view [] CodeT l) (eqIr i (eqIr (addW IntKind.i64 i 2) (need (inI (addW IntKind.i64 i 2) (lenI l)) (needr
    (AV.vptr [] (AV.int IntKind.i64 (nth CodeT l (addW IntKind.i64 i 2)).fst :: AV.int IntKind.i64 (nth CodeT l (addW IntKind.i64 i 2)).snd.fst :: AV.int IntKind.i64
    (nth CodeT l (addW IntKind.i64 i 2)).snd.snd.fst :: AV.int IntKind.i64 (nth CodeT l (addW IntKind.i64 i 2)).snd.snd.snd :: [])) (eqIr (nth CodeT l (addW IntKind.i64
    i 2)).fst (eqIr (nth CodeT l (addW IntKind.i64 i 2)).snd.fst (eqIr (nth CodeT l (addW IntKind.i64 i 2)).snd.snd.fst (eqIr (nth CodeT l (addW IntKind.i64 i 2)).snd.snd.snd
    (needr (AV.view [] CodeT l) (eqIr i (eqIr (addW IntKind.i64 i 2) (need (inI (addW IntKind.i64 i 2) (lenI l)) (needr (AV.vptr [] (AV.int IntKind.i64 (nth CodeT l
    (addW IntKind.i64 i 2)).fst :: AV.int IntKind.i64 (nth CodeT l (addW IntKind.i64 i 2)).snd.fst :: AV.int IntKind.i64 (nth CodeT l (addW IntKind.i64 i 2)).snd.snd.fst
    :: AV.int IntKind.i64 (nth CodeT l (addW IntKind.i64 i 2)).snd.snd.snd :: [])) (eqIr (nth CodeT l (addW IntKind.i64 i 2)).fst (eqIr (nth CodeT l (addW IntKind.i64
    i 2)).snd.fst (eqIr (nth CodeT l (addW IntKind.i64 i 2)).snd.snd.fst (eqIr (nth CodeT l (addW IntKind.i64 i 2)).snd.snd.snd (need (inI (addW IntKind.i64 i 1) (lenI
    l)) (ifB (selB (selB (notB (eqB (nth CodeT l i).snd.fst (nth CodeT l (addW IntKind.i64 i 1)).snd.fst)) true (selB b (leB (nth CodeT l (addW IntKind.i64 i 2)).snd.fst
    2) false)) true (selB (notB b) (notB (eqB (nth CodeT l (addW IntKind.i64 i 2)).snd.fst 2)) false)) (AOut.ret (AV.tup (AV.view [] CodeT (@List.nil (den CodeT)) ::
    AV.int IntKind.i64 0 :: AV.bool false :: [])) = AOut.ret (AV.tup (AV.view [] CodeT (twinsL b l i) :: AV.int IntKind.i64 (twinsN b l i) :: AV.bool (twinsC b l i)
    :: []))) (ifB b (eqIr (nth CodeT l i).fst (eqIr (nth CodeT l i).snd.fst (eqIr (nth CodeT l i).snd.snd.fst (eqIr (nth CodeT l i).snd.snd.snd (eqIr (nth CodeT l (addW
    IntKind.i64 i 2)).fst (eqIr (nth CodeT l (addW IntKind.i64 i 2)).snd.fst (eqIr (nth CodeT l (addW IntKind.i64 i 2)).snd.snd.fst (eqIr (nth CodeT l (addW IntKind.i64
    i 2)).snd.snd.snd (eqIr (nth CodeT l i).fst (eqIr (nth CodeT l i).snd.fst (eqIr (nth CodeT l i).snd.snd.fst (eqIr (nth CodeT l i).snd.snd.snd (AOut.ret (AV.tup (AV.view
    [] CodeT (((nth CodeT l i).fst, (nth CodeT l i).snd.fst, (nth CodeT l i).snd.snd.fst, (nth CodeT l i).snd.snd.snd) :: ((nth CodeT l (addW IntKind.i64 i 2)).fst,
    subW IntKind.i64 (nth CodeT l (addW IntKind.i64 i 2)).snd.fst 1, (nth CodeT l (addW IntKind.i64 i 2)).snd.snd.fst, (nth CodeT l (addW IntKind.i64 i 2)).snd.snd.snd)
    :: @List.nil (den CodeT)) :: AV.int IntKind.i64 3 :: AV.bool true :: [])) = AOut.ret (AV.tup (AV.view [] CodeT (twinsL b l i) :: AV.int IntKind.i64 (twinsN b l i)
    :: AV.bool (twinsC b l i) :: []))))))))))))))) (AOut.ret (AV.tup (AV.view [] CodeT (((nth CodeT l i).fst, (nth CodeT l i).snd.fst, (nth CodeT l i).snd.snd.fst, (nth
    CodeT l i).snd.snd.snd) :: @List.nil (den CodeT)) :: AV.int IntKind.i64 3 :: AV.bool true :: [])) = AOut.ret (AV.tup (AV.view [] CodeT (twinsL b l i) :: AV.int IntKind.i64
    (twinsN b l i) :: AV.bool (twinsC b l i) :: []))))))))))))))))))))))))))))))))))))))))))))))))) (needr (AV.view [] CodeT l) (eqIr i (need (inI i (lenI l)) (needr
    (AV.vptr [] (AV.int IntKind.i64 (nth CodeT l i).fst :: AV.int IntKind.i64 (nth CodeT l i).snd.fst :: AV.int IntKind.i64 (nth CodeT l i).snd.snd.fst :: AV.int IntKind.i64
    (nth CodeT l i).snd.snd.snd :: [])) (eqIr (nth CodeT l i).fst (eqIr (nth CodeT l i).snd.fst (eqIr (nth CodeT l i).snd.snd.fst (eqIr (nth CodeT l i).snd.snd.snd (needr
    (AV.view [] CodeT l) (eqIr i (eqIr (addW IntKind.i64 i 2) (need (inI (addW IntKind.i64 i 2) (lenI l)) (needr (AV.vptr [] (AV.int IntKind.i64 (nth CodeT l (addW IntKind.i64
    i 2)).fst :: AV.int IntKind.i64 (nth CodeT l (addW IntKind.i64 i 2)).snd.fst :: AV.int IntKind.i64 (nth CodeT l (addW IntKind.i64 i 2)).snd.snd.fst :: AV.int IntKind.i64
    (nth CodeT l (addW IntKind.i64 i 2)).snd.snd.snd :: [])) (eqIr (nth CodeT l (addW IntKind.i64 i 2)).fst (eqIr (nth CodeT l (addW IntKind.i64 i 2)).snd.fst (eqIr
    (nth CodeT l (addW IntKind.i64 i 2)).snd.snd.fst (eqIr (nth CodeT l (addW IntKind.i64 i 2)).snd.snd.snd (needr (AV.view [] CodeT l) (eqIr i (need (inI i (lenI l))
    (needr (AV.vptr [] (AV.int IntKind.i64 (nth CodeT l i).fst :: AV.int IntKind.i64 (nth CodeT l i).snd.fst :: AV.int IntKind.i64 (nth CodeT l i).snd.snd.fst :: AV.int
    IntKind.i64 (nth CodeT l i).snd.snd.snd :: [])) (eqIr (nth CodeT l i).fst (eqIr (nth CodeT l i).snd.fst (eqIr (nth CodeT l i).snd.snd.fst (eqIr (nth CodeT l i).snd.snd.snd
    (needr (AV.view [] CodeT l) (eqIr i (eqIr (addW IntKind.i64 i 2) (need (inI (addW IntKind.i64 i 2) (lenI l)) (needr (AV.vptr [] (AV.int IntKind.i64 (nth CodeT l
    (addW IntKind.i64 i 2)).fst :: AV.int IntKind.i64 (nth CodeT l (addW IntKind.i64 i 2)).snd.fst :: AV.int IntKind.i64 (nth CodeT l (addW IntKind.i64 i 2)).snd.snd.fst
    :: AV.int IntKind.i64 (nth CodeT l (addW IntKind.i64 i 2)).snd.snd.snd :: [])) (eqIr (nth CodeT l (addW IntKind.i64 i 2)).fst (eqIr (nth CodeT l (addW IntKind.i64
    i 2)).snd.fst (eqIr (nth CodeT l (addW IntKind.i64 i 2)).snd.snd.fst (eqIr (nth CodeT l (addW IntKind.i64 i 2)).snd.snd.snd (needr (AV.view [] CodeT l) (eqIr i (eqIr
    (addW IntKind.i64 i 2) (need (inI (addW IntKind.i64 i 2) (lenI l)) (needr (AV.vptr [] (AV.int IntKind.i64 (nth CodeT l (addW IntKind.i64 i 2)).fst :: AV.int IntKind.i64
    (nth CodeT l (addW IntKind.i64 i 2)).snd.fst :: AV.int IntKind.i64 (nth CodeT l (addW IntKind.i64 i 2)).snd.snd.fst :: AV.int IntKind.i64 (nth CodeT l (addW IntKind.i64
    i 2)).snd.snd.snd :: [])) (eqIr (nth CodeT l (addW IntKind.i64 i 2)).fst (eqIr (nth CodeT l (addW IntKind.i64 i 2)).snd.fst (eqIr (nth CodeT l (addW IntKind.i64
    i 2)).snd.snd.fst (eqIr (nth CodeT l (addW IntKind.i64 i 2)).snd.snd.snd (need (inI (addW IntKind.i64 i 1) (lenI l)) (ifB (selB (selB (notB (eqB (nth CodeT l i).snd.fst
    (nth CodeT l (addW IntKind.i64 i 1)).snd.fst)) true (selB b (leB (nth CodeT l (addW IntKind.i64 i 2)).snd.fst 2) false)) true (selB (notB b) (notB (eqB (nth CodeT
    l (addW IntKind.i64 i 2)).snd.fst 2)) false)) (AOut.ret (AV.tup (AV.view [] CodeT (@List.nil (den CodeT)) :: AV.int IntKind.i64 0 :: AV.bool false :: [])) = AOut.ret
    (AV.tup (AV.view [] CodeT (twinsL b l i) :: AV.int IntKind.i64 (twinsN b l i) :: AV.bool (twinsC b l i) :: []))) (ifB b (eqIr (nth CodeT l i).fst (eqIr (nth CodeT
    l i).snd.fst (eqIr (nth CodeT l i).snd.snd.fst (eqIr (nth CodeT l i).snd.snd.snd (eqIr (nth CodeT l (addW IntKind.i64 i 2)).fst (eqIr (nth CodeT l (addW IntKind.i64
    i 2)).snd.fst (eqIr (nth CodeT l (addW IntKind.i64 i 2)).snd.snd.fst (eqIr (nth CodeT l (addW IntKind.i64 i 2)).snd.snd.snd (eqIr (nth CodeT l i).fst (eqIr (nth
    CodeT l i).snd.fst (eqIr (nth CodeT l i).snd.snd.fst (eqIr (nth CodeT l i).snd.snd.snd (AOut.ret (AV.tup (AV.view [] CodeT (((nth CodeT l i).fst, (nth CodeT l i).snd.fst,
    (nth CodeT l i).snd.snd.fst, (nth CodeT l i).snd.snd.snd) :: ((nth CodeT l (addW IntKind.i64 i 2)).fst, subW IntKind.i64 (nth CodeT l (addW IntKind.i64 i 2)).snd.fst
    1, (nth CodeT l (addW IntKind.i64 i 2)).snd.snd.fst, (nth CodeT l (addW IntKind.i64 i 2)).snd.snd.snd) :: @List.nil (den CodeT)) :: AV.int IntKind.i64 3 :: AV.bool
    true :: [])) = AOut.ret (AV.tup (AV.view [] CodeT (twinsL b l i) :: AV.int IntKind.i64 (twinsN b l i) :: AV.bool (twinsC b l i) :: []))))))))))))))) (AOut.ret (AV.tup
    (AV.view [] CodeT (((nth CodeT l i).fst, (nth CodeT l i).snd.fst, (nth CodeT l i).snd.snd.fst, (nth CodeT l i).snd.snd.snd) :: @List.nil (den CodeT)) :: AV.int IntKind.i64
    3 :: AV.bool true :: [])) = AOut.ret (AV.tup (AV.view [] CodeT (twinsL b l i) :: AV.int IntKind.i64 (twinsN b l i) :: AV.bool (twinsC b l i) :: []))))))))))))))))))))))))))))))))))))))))))))))))))))))))))))))))))))))) := by kernel_rfl
theorem twinsR_ok : SpecOK Try.prog 18 (fspecS (pureN [.sl CodeT, .any, .any] twinsRS)) := pureN_ok (mkCall fsOK_idle specsOK_nil fnsOK) (.ag [.sl CodeT, .any, .any]) (fun vs w => Try.call18 vs w) fun args ps v h hp hw => by
  unfold twinsRS at h
  split at h
  · cases h
    rename_i l i b
    rw [twinsR_eq]
    refine ⟨?_⟩
    simp only [allP_cons, allP_nil, and_true] at hp
    simp only [wfAL, wfA, wfS, wfM, wfB, and_true, true_and, wfT_int, wfT_str, wfT_bool, wfT_prod] at hw
    have hl := wfT_len hw.1
    have h0 := lenI_nn l
    by_cases hAB : areF l i [2, 2, 5] = false ∧ areF l i [2, 2, 4] = false
    · have u : twinsC b l i = false := by unfold twinsC; rw [hAB.1, hAB.2]; rfl
      unfold twinsL twinsN
      rw [hAB.1, hAB.2, u]
      simp only [simpsL, implies_true, forall_const, if_true, if_false, reduceCtorEq]
    · have hb : 0 ≤ i ∧ 3 ≤ lenI l - i := by
        cases hA : areF l i [2, 2, 5] with
        | true => exact are_len hA
        | false =>
          cases hB : areF l i [2, 2, 4] with
          | true => exact are_len hB
          | false => exact absurd ⟨hA, hB⟩ hAB
      have e1 : addW .i64 i 1 = i + 1 := addW64 (by omega) (by omega)
      have e2 : addW .i64 i 2 = i + 2 := addW64 (by omega) (by omega)
      have i0 : inI i (lenI l) := ⟨by omega, by omega⟩
      have i1 : inI (i + 1) (lenI l) := ⟨by omega, by omega⟩
      have i2 : inI (i + 2) (lenI l) := ⟨by omega, by omega⟩
      have u : twinsC b l i = (decide ((nth CodeT l i).2.1 = (nth CodeT l (i + 1)).2.1) && (if b then decide (2 < (nth CodeT l (i + 2)).2.1) else decide ((nth CodeT l (i + 2)).2.1 = 2))) := by
        unfold twinsC
        have : (areF l i [2, 2, 5] || areF l i [2, 2, 4]) = true := by
          cases hA : areF l i [2, 2, 5] <;> cases hB : areF l i [2, 2, 4] <;> simp_all
        rw [this, Bool.true_and]
      unfold twinsL twinsN
      rw [u, e1, e2]
      simp only [need_def, eqI_def, eqL_def, i0, i1, i2, true_and, and_true]
      generalize nth CodeT l i = x
      generalize nth CodeT l (i + 1) = y
      generalize nth CodeT l (i + 2) = z
      obtain ⟨x1, x2, x3, x4⟩ := x
      obtain ⟨z1, z2, z3, z4⟩ := z
      generalize y.2.1 = y2
      have hc : ∀ {b : Bool}, notB b = true → b = false := by intro b; cases b <;> simp [notB]
      rw [ifB_def]
      refine ⟨fun h => ?_, fun h => ?_⟩
      · rw [ifB_def]
        refine ⟨fun h' => absurd ⟨hc h, hc h'⟩ hAB, fun h' => ?_⟩
        cases b <;> by_cases c1 : x2 = y2 <;> simp only [ifB_def, selB_f, selB_t, notB_def, eqB_def, leB_def, c1, lessF] <;> simp [eqT] <;> (try omega)
      · cases b <;> by_cases c1 : x2 = y2 <;> simp only [ifB_def, selB_f, selB_t, notB_def, eqB_def, leB_def, c1, lessF] <;> simp [eqT] <;> (try omega)
  · cases h
noncomputable def FF_twinsR : FSpec := pureN [.sl CodeT, .any, .any] twinsRS
theorem FFok_twinsR : SpecOK Try.prog 18 (fspecS FF_twinsR) := twinsR_ok
noncomputable def fs_twinsR : FS := (18, FF_twinsR) :: fs_idle
theorem fsOK_twinsR : FSOK Try.prog fs_twinsR := fsOK_cons FFok_twinsR fsOK_idle
noncomputable def idleRS : List AV → OV := fun args => match args with | [.view [] (.prod (.int .i64) (.prod (.int .i64) (.prod (.int .i64) (.int .i64)))) l, .int .i64 i, .vptr [] [.bool b]] => some ([], .tup [.view [] CodeT (idleL b l i), .int .i64 (idleN l i), .bool (idleC b l i)]) | _ => none
theorem idleR_eq (l : List (den CodeT)) (i : Int) (b : Bool) : acall tab fs_twinsR [] fns 100 20 20 [.view [] CodeT l, .int .i64 i, .vptr [] [.bool b]] [] (fun o mm _ _ => resN (.ag [.sl CodeT, .any, .any]) mm o = .ret (.tup [.view [] CodeT (idleL b l i), .int .i64 (idleN l i), .bool (idleC b l i)])) =
  (ifB (notB (areF l i (1 :: 5 :: @List.nil (den (Ty.int IntKind.i64))))) (ifB (notB (areF l i (0 :: 4 :: @List.nil (den (Ty.int IntKind.i64))))) (AOut.ret (AV.tup
    (AV.view [] CodeT (@List.nil (den CodeT)) :: AV.int IntKind.i64 0 :: AV.bool false :: [])) = AOut.ret (AV.tup (AV.view [] CodeT (idleL b l i) :: AV.int IntKind.i64
    (idleN l i) :: AV.bool (idleC b l i) :: []))) (need (inI (addW IntKind.i64 i 1) (lenI l)) (ifB b (eqIr (nth CodeT l (addW IntKind.i64 i 1)).fst (eqIr (nth CodeT
    l (addW IntKind.i64 i 1)).snd.fst (eqIr (nth CodeT l (addW IntKind.i64 i 1)).snd.snd.fst (eqIr (nth CodeT l (addW IntKind.i64 i 1)).snd.snd.snd (eqIr (nth CodeT
    l (addW IntKind.i64 i 1)).snd.fst (eqLr (ltB 2 (nth CodeT l (addW IntKind.i64 i 1)).snd.fst) (eqIr (nth CodeT l (addW IntKind.i64 i 1)).snd.fst (eqLr (ltB 2 (nth
    CodeT l (addW IntKind.i64 i 1)).snd.fst) (eqIr (nth CodeT l (addW IntKind.i64 i 1)).snd.fst (eqLr (ltB 2 (nth CodeT l (addW IntKind.i64 i 1)).snd.fst) (eqIr (nth
    CodeT l (addW IntKind.i64 i 1)).snd.fst (eqLr (ltB 2 (nth CodeT l (addW IntKind.i64 i 1)).snd.fst) (eqIr (nth CodeT l (addW IntKind.i64 i 1)).snd.fst (eqLr (ltB
    2 (nth CodeT l (addW IntKind.i64 i 1)).snd.fst) (AOut.ret (AV.tup (AV.view [] CodeT (((nth CodeT l (addW IntKind.i64 i 1)).fst, subW IntKind.i64 (nth CodeT l (addW
    IntKind.i64 i 1)).snd.fst 1, (nth CodeT l (addW IntKind.i64 i 1)).snd.snd.fst, (nth CodeT l (addW IntKind.i64 i 1)).snd.snd.snd) :: @List.nil (den CodeT)) :: AV.int
    IntKind.i64 2 :: AV.bool (ltB 2 (nth CodeT l (addW IntKind.i64 i 1)).snd.fst) :: [])) = AOut.ret (AV.tup (AV.view [] CodeT (idleL b l i) :: AV.int IntKind.i64 (idleN
    l i) :: AV.bool (idleC b l i) :: []))))))))))))))))) (AOut.ret (AV.tup (AV.view [] CodeT (@List.nil (den CodeT)) :: AV.int IntKind.i64 2 :: AV.bool (eqB (nth CodeT
    l (addW IntKind.i64 i 1)).snd.fst 2) :: [])) = AOut.ret (AV.tup (AV.view [] CodeT (idleL b l i) :: AV.int IntKind.i64 (idleN l i) :: AV.bool (idleC b l i) :: []))))))
    (need (eqT false false) (need (inI (addW IntKind.i64 i 1) (lenI l)) (ifB b (eqIr (nth CodeT l (addW IntKind.i64 i 1)).fst (eqIr (nth CodeT l (addW IntKind.i64 i
    1)).snd.fst (eqIr (nth CodeT l (addW IntKind.i64 i 1)).snd.snd.fst (eqIr (nth CodeT l (addW IntKind.i64 i 1)).snd.snd.snd (eqIr (nth CodeT l (addW IntKind.i64 i
    1)).snd.fst (eqLr (ltB 2 (nth CodeT l (addW IntKind.i64 i 1)).snd.fst) (eqIr (nth CodeT l (addW IntKind.i64 i 1)).snd.fst (eqLr (ltB 2 (nth CodeT l (addW IntKind.i64
    i 1)).snd.fst) (eqIr (nth CodeT l (addW IntKind.i64 i 1)).snd.fst (eqLr (ltB 2 (nth CodeT l (addW IntKind.i64 i 1)).snd.fst) (eqIr (nth CodeT l (addW IntKind.i64
    i 1)).snd.fst (eqLr (ltB 2 (nth CodeT l (addW IntKind.i64 i 1)).snd.fst) (eqIr (nth CodeT l (addW IntKind.i64 i 1)).snd.fst (eqLr (ltB 2 (nth CodeT l (addW IntKind.i64
    i 1)).snd.fst) (AOut.ret (AV.tup (AV.view [] CodeT (((nth CodeT l (addW IntKind.i64 i 1)).fst, subW IntKind.i64 (nth CodeT l (addW IntKind.i64 i 1)).snd.fst 1, (nth
    CodeT l (addW IntKind.i64 i 1)).snd.snd.fst, (nth CodeT l (addW IntKind.i64 i 1)).snd.snd.snd) :: @List.nil (den CodeT)) :: AV.int IntKind.i64 2 :: AV.bool (ltB
    2 (nth CodeT l (addW IntKind.i64 i 1)).snd.fst) :: [])) = AOut.ret (AV.tup (AV.view [] CodeT (idleL b l i) :: AV.int IntKind.i64 (idleN l i) :: AV.bool (idleC b
    l i) :: []))))))))))))))))) (AOut.ret (AV.tup (AV.view [] CodeT (@List.nil (den CodeT)) :: AV.int IntKind.i64 2 :: AV.bool (eqB (nth CodeT l (addW IntKind.i64 i
    1)).snd.fst 2) :: [])) = AOut.ret (AV.tup (AV.view [] CodeT (idleL b l i) :: AV.int IntKind.i64 (idleN l i) :: AV.bool (idleC b l i) :: []))))))) := by kernel_rfl
theorem idleR_ok : SpecOK Try.prog 20 (fspecS (pureN [.sl CodeT, .any, .any] idleRS)) := pureN_ok (mkCall fsOK_twinsR specsOK_nil fnsOK) (.ag [.sl CodeT, .any, .any]) (fun vs w => Try.call20 vs w) fun args ps v h hp hw => by
  unfold idleRS at h
  split at h
  · cases h
    rename_i l i b
    rw [idleR_eq]
    refine ⟨?_⟩
    simp only [allP_cons, allP_nil, and_true] at hp
    simp only [wfAL, wfA, wfS, wfM, wfB, and_true, true_and, wfT_int, wfT_str, wfT_bool, wfT_prod] at hw
    have hl := wfT_len hw.1
    have h0 := lenI_nn l
    cases hI : idleA l i with
    | false =>
      have hAB : areF l i [1, 5] = false ∧ areF l i [0, 4] = false := by simpa [idleA] using hI
      unfold idleL idleN idleC
      rw [hAB.1, hAB.2, hI]
      simp only [simpsL, implies_true, forall_const, if_true, if_false, reduceCtorEq, Bool.false_and]
    | true =>
      have hb : 0 ≤ i ∧ 2 ≤ lenI l - i := by
        unfold idleA at hI
        cases hA : areF l i [1, 5] with
        | true => exact are_len hA
        | false => rw [hA, Bool.false_or] at hI; exact are_len hI
      have e1 : addW .i64 i 1 = i + 1 := addW64 (by omega) (by omega)
      have i1 : inI (i + 1) (lenI l) := ⟨by omega, by omega⟩
      unfold idleL idleN idleC
      rw [hI, e1]
      simp only [need_def, eqI_def, eqL_def, i1, true_and, and_true]
      unfold idleA at hI
      generalize nth CodeT l (i + 1) = z
      obtain ⟨z1, z2, z3, z4⟩ := z
      have hc : ∀ {b : Bool}, notB b = true → b = false := by intro b; cases b <;> simp [notB]
      rw [ifB_def]
      refine ⟨fun h => ?_, fun h => ?_⟩
      · rw [ifB_def]
        refine ⟨fun h' => ?_, fun h' => ?_⟩
        · rw [hc h, hc h'] at hI; cases hI
        · cases b <;> simp only [ifB_def, selB_f, selB_t, notB_def, eqB_def, leB_def, ltB_def, lessF] <;> simp [eqT] <;> (try omega)
      · cases b <;> simp only [ifB_def, selB_f, selB_t, notB_def, eqB_def, leB_def, ltB_def, lessF] <;> simp [eqT] <;> (try omega)
  · cases h
noncomputable def FF_idleR : FSpec := pureN [.sl CodeT, .any, .any] idleRS
theorem FFok_idleR : SpecOK Try.prog 20 (fspecS FF_idleR) := idleR_ok
noncomputable def fs_idleR : FS := (20, FF_idleR) :: fs_twinsR
theorem fsOK_idleR : FSOK Try.prog fs_idleR := fsOK_cons FFok_idleR fsOK_twinsR
end Go.Proofs.Ytkdemkkepepbdaa.Sx


/- Ytmdjpohmbkodeaa: the law TraceDuals returns true for every input, and its arguments read as they did: no condition. -/
import Derived.Test.YtmdjpohmbkodeaaRows
import Derived.Test.YtmdjpohmbkodeaaSxV
import Derived.Test.YtmdjpohmbkodeaaSmTraceK
import Derived.HandedShaped
namespace Go.Proofs.Ytmdjpohmbkodeaa
open Go.ChangeShapes Go.WideShapes Go.ChangeAt Go.RowKit Sx
set_option maxRecDepth 100000
set_option linter.unusedVariables false
set_option linter.unusedSimpArgs false
set_option maxHeartbeats 4000000

def okS (n : List (den NodeT)) (k : Int) : Prop := termsFit n ∧ lenI n ≤ k
theorem okS_one {n : List (den NodeT)} {k : Int} (op fr to : Int) (h : okS n k) : okS (makeF op fr to [] 0 [n]) (k + 1) := by
  refine ⟨tf_make fun x hx => ?_, ?_⟩
  · rw [List.mem_singleton] at hx; rw [hx]; exact h.1
  · have := h.2
    rw [len_make, lens_cons, lens_nil]; omega
theorem okS_two {n m : List (den NodeT)} {k j : Int} (op fr to : Int) (h : okS n k) (h2 : okS m j) : okS (makeF op fr to [] 0 [n, m]) (k + j + 1) := by
  refine ⟨tf_make fun x hx => ?_, ?_⟩
  · simp only [List.mem_cons, List.not_mem_nil, or_false] at hx
    rcases hx with rfl | rfl
    · exact h.1
    · exact h2.1
  · have := h.2
    have := h2.2
    rw [len_make, lens_cons, lens_cons, lens_nil]; omega
theorem okS_mid {n : List (den NodeT)} {k : Int} (h : okS n k) (hk : k ≤ 10000) : midN n := by have := h.2; unfold midN; omega
theorem okS_t {n : List (den NodeT)} {k : Int} (h : okS n k) (hk : k ≤ 10000) : treeOK n := treeOK_of h.1 (by have := h.2; omega)
theorem TraceDuals_eq (a b : List (den NodeT)) (fr to : Int) (nm : List (den .str)) (rows : List (den (.list (.int .i64)))) : acall tab fs_alike specs_part fns 100 20 8 [.view [] NodeT a, .view [] NodeT b, .int .i64 fr, .int .i64 to, .view [] .str nm, .view [] (.list (.int .i64)) rows] [] (fun o _ _ _ => o = .ret (.bool true)) =
  (ifB (selB (selB (selB (selB (selB (selB (selB (notB (validF a)) true (notB (validF b))) true (ltB 200 (addW IntKind.i64 (lenI a) (lenI b)))) true (notB (rowsB rows
    nm))) true (ltB fr 0)) true (ltB 1000 fr)) true (ltB 1000 to)) true (selB (ltB to fr) (notB (eqB to (-1))) false)) (AOut.ret (AV.bool true) = AOut.ret (AV.bool true))
    (need (fits (@List.nil (den TermT))) (need (allFit (a :: @List.nil (den NodeT.list))) (need (fits (@List.nil (den TermT))) (need (allFit (b :: @List.nil (den NodeT.list)))
    (need (fits (@List.nil (den TermT))) (need (allFit (a :: @List.nil (den NodeT.list))) (need (fits (@List.nil (den TermT))) (need (allFit (makeF 3 0 0 (@List.nil
    (den TermT)) 0 (a :: @List.nil (den NodeT.list)) :: @List.nil (den NodeT.list))) (need (fits (@List.nil (den TermT))) (need (allFit (makeF 8 fr to (@List.nil (den
    TermT)) 0 (makeF 3 0 0 (@List.nil (den TermT)) 0 (a :: @List.nil (den NodeT.list)) :: @List.nil (den NodeT.list)) :: @List.nil (den NodeT.list))) (need (midN (makeF
    9 fr to (@List.nil (den TermT)) 0 (a :: @List.nil (den NodeT.list)))) (need (midN (makeF 3 0 0 (@List.nil (den TermT)) 0 (makeF 8 fr to (@List.nil (den TermT)) 0
    (makeF 3 0 0 (@List.nil (den TermT)) 0 (a :: @List.nil (den NodeT.list)) :: @List.nil (den NodeT.list)) :: @List.nil (den NodeT.list)))) (need (oneR (lenI rows))
    (need (impB (alikeB (makeF 9 fr to (@List.nil (den TermT)) 0 (a :: @List.nil (den NodeT.list))) (makeF 3 0 0 (@List.nil (den TermT)) 0 (makeF 8 fr to (@List.nil
    (den TermT)) 0 (makeF 3 0 0 (@List.nil (den TermT)) 0 (a :: @List.nil (den NodeT.list)) :: @List.nil (den NodeT.list)) :: @List.nil (den NodeT.list))) nm rows) (fits
    (@List.nil (den TermT)))) (need (impB (alikeB (makeF 9 fr to (@List.nil (den TermT)) 0 (a :: @List.nil (den NodeT.list))) (makeF 3 0 0 (@List.nil (den TermT)) 0
    (makeF 8 fr to (@List.nil (den TermT)) 0 (makeF 3 0 0 (@List.nil (den TermT)) 0 (a :: @List.nil (den NodeT.list)) :: @List.nil (den NodeT.list)) :: @List.nil (den
    NodeT.list))) nm rows) (allFit (a :: @List.nil (den NodeT.list)))) (need (impB (alikeB (makeF 9 fr to (@List.nil (den TermT)) 0 (a :: @List.nil (den NodeT.list)))
    (makeF 3 0 0 (@List.nil (den TermT)) 0 (makeF 8 fr to (@List.nil (den TermT)) 0 (makeF 3 0 0 (@List.nil (den TermT)) 0 (a :: @List.nil (den NodeT.list)) :: @List.nil
    (den NodeT.list)) :: @List.nil (den NodeT.list))) nm rows) (fits (@List.nil (den TermT)))) (need (impB (alikeB (makeF 9 fr to (@List.nil (den TermT)) 0 (a :: @List.nil
    (den NodeT.list))) (makeF 3 0 0 (@List.nil (den TermT)) 0 (makeF 8 fr to (@List.nil (den TermT)) 0 (makeF 3 0 0 (@List.nil (den TermT)) 0 (a :: @List.nil (den NodeT.list))
    :: @List.nil (den NodeT.list)) :: @List.nil (den NodeT.list))) nm rows) (allFit (((0, 0, 0, 0, @List.nil (den TermT), 0) :: @List.nil (den NodeT)) :: a :: @List.nil
    (den NodeT.list)))) (need (impB (alikeB (makeF 9 fr to (@List.nil (den TermT)) 0 (a :: @List.nil (den NodeT.list))) (makeF 3 0 0 (@List.nil (den TermT)) 0 (makeF
    8 fr to (@List.nil (den TermT)) 0 (makeF 3 0 0 (@List.nil (den TermT)) 0 (a :: @List.nil (den NodeT.list)) :: @List.nil (den NodeT.list)) :: @List.nil (den NodeT.list)))
    nm rows) (midN (makeF 8 fr to (@List.nil (den TermT)) 0 (a :: @List.nil (den NodeT.list))))) (need (impB (alikeB (makeF 9 fr to (@List.nil (den TermT)) 0 (a :: @List.nil
    (den NodeT.list))) (makeF 3 0 0 (@List.nil (den TermT)) 0 (makeF 8 fr to (@List.nil (den TermT)) 0 (makeF 3 0 0 (@List.nil (den TermT)) 0 (a :: @List.nil (den NodeT.list))
    :: @List.nil (den NodeT.list)) :: @List.nil (den NodeT.list))) nm rows) (midN (makeF 10 fr to (@List.nil (den TermT)) 0 (((0, 0, 0, 0, @List.nil (den TermT), 0)
    :: @List.nil (den NodeT)) :: a :: @List.nil (den NodeT.list))))) (need (impB (alikeB (makeF 9 fr to (@List.nil (den TermT)) 0 (a :: @List.nil (den NodeT.list)))
    (makeF 3 0 0 (@List.nil (den TermT)) 0 (makeF 8 fr to (@List.nil (den TermT)) 0 (makeF 3 0 0 (@List.nil (den TermT)) 0 (a :: @List.nil (den NodeT.list)) :: @List.nil
    (den NodeT.list)) :: @List.nil (den NodeT.list))) nm rows) (oneR (lenI rows))) (need (impB (selB (alikeB (makeF 9 fr to (@List.nil (den TermT)) 0 (a :: @List.nil
    (den NodeT.list))) (makeF 3 0 0 (@List.nil (den TermT)) 0 (makeF 8 fr to (@List.nil (den TermT)) 0 (makeF 3 0 0 (@List.nil (den TermT)) 0 (a :: @List.nil (den NodeT.list))
    :: @List.nil (den NodeT.list)) :: @List.nil (den NodeT.list))) nm rows) (alikeB (makeF 8 fr to (@List.nil (den TermT)) 0 (a :: @List.nil (den NodeT.list))) (makeF
    10 fr to (@List.nil (den TermT)) 0 (((0, 0, 0, 0, @List.nil (den TermT), 0) :: @List.nil (den NodeT)) :: a :: @List.nil (den NodeT.list))) nm rows) false) (fits
    (@List.nil (den TermT)))) (need (impB (selB (alikeB (makeF 9 fr to (@List.nil (den TermT)) 0 (a :: @List.nil (den NodeT.list))) (makeF 3 0 0 (@List.nil (den TermT))
    0 (makeF 8 fr to (@List.nil (den TermT)) 0 (makeF 3 0 0 (@List.nil (den TermT)) 0 (a :: @List.nil (den NodeT.list)) :: @List.nil (den NodeT.list)) :: @List.nil (den
    NodeT.list))) nm rows) (alikeB (makeF 8 fr to (@List.nil (den TermT)) 0 (a :: @List.nil (den NodeT.list))) (makeF 10 fr to (@List.nil (den TermT)) 0 (((0, 0, 0,
    0, @List.nil (den TermT), 0) :: @List.nil (den NodeT)) :: a :: @List.nil (den NodeT.list))) nm rows) false) (allFit (a :: b :: @List.nil (den NodeT.list)))) (need
    (impB (selB (alikeB (makeF 9 fr to (@List.nil (den TermT)) 0 (a :: @List.nil (den NodeT.list))) (makeF 3 0 0 (@List.nil (den TermT)) 0 (makeF 8 fr to (@List.nil
    (den TermT)) 0 (makeF 3 0 0 (@List.nil (den TermT)) 0 (a :: @List.nil (den NodeT.list)) :: @List.nil (den NodeT.list)) :: @List.nil (den NodeT.list))) nm rows) (alikeB
    (makeF 8 fr to (@List.nil (den TermT)) 0 (a :: @List.nil (den NodeT.list))) (makeF 10 fr to (@List.nil (den TermT)) 0 (((0, 0, 0, 0, @List.nil (den TermT), 0) ::
    @List.nil (den NodeT)) :: a :: @List.nil (den NodeT.list))) nm rows) false) (fits (@List.nil (den TermT)))) (need (impB (selB (alikeB (makeF 9 fr to (@List.nil (den
    TermT)) 0 (a :: @List.nil (den NodeT.list))) (makeF 3 0 0 (@List.nil (den TermT)) 0 (makeF 8 fr to (@List.nil (den TermT)) 0 (makeF 3 0 0 (@List.nil (den TermT))
    0 (a :: @List.nil (den NodeT.list)) :: @List.nil (den NodeT.list)) :: @List.nil (den NodeT.list))) nm rows) (alikeB (makeF 8 fr to (@List.nil (den TermT)) 0 (a ::
    @List.nil (den NodeT.list))) (makeF 10 fr to (@List.nil (den TermT)) 0 (((0, 0, 0, 0, @List.nil (den TermT), 0) :: @List.nil (den NodeT)) :: a :: @List.nil (den
    NodeT.list))) nm rows) false) (allFit (makeF 3 0 0 (@List.nil (den TermT)) 0 (a :: @List.nil (den NodeT.list)) :: makeF 3 0 0 (@List.nil (den TermT)) 0 (b :: @List.nil
    (den NodeT.list)) :: @List.nil (den NodeT.list)))) (need (impB (selB (alikeB (makeF 9 fr to (@List.nil (den TermT)) 0 (a :: @List.nil (den NodeT.list))) (makeF 3
    0 0 (@List.nil (den TermT)) 0 (makeF 8 fr to (@List.nil (den TermT)) 0 (makeF 3 0 0 (@List.nil (den TermT)) 0 (a :: @List.nil (den NodeT.list)) :: @List.nil (den
    NodeT.list)) :: @List.nil (den NodeT.list))) nm rows) (alikeB (makeF 8 fr to (@List.nil (den TermT)) 0 (a :: @List.nil (den NodeT.list))) (makeF 10 fr to (@List.nil
    (den TermT)) 0 (((0, 0, 0, 0, @List.nil (den TermT), 0) :: @List.nil (den NodeT)) :: a :: @List.nil (den NodeT.list))) nm rows) false) (fits (@List.nil (den TermT))))
    (need (impB (selB (alikeB (makeF 9 fr to (@List.nil (den TermT)) 0 (a :: @List.nil (den NodeT.list))) (makeF 3 0 0 (@List.nil (den TermT)) 0 (makeF 8 fr to (@List.nil
    (den TermT)) 0 (makeF 3 0 0 (@List.nil (den TermT)) 0 (a :: @List.nil (den NodeT.list)) :: @List.nil (den NodeT.list)) :: @List.nil (den NodeT.list))) nm rows) (alikeB
    (makeF 8 fr to (@List.nil (den TermT)) 0 (a :: @List.nil (den NodeT.list))) (makeF 10 fr to (@List.nil (den TermT)) 0 (((0, 0, 0, 0, @List.nil (den TermT), 0) ::
    @List.nil (den NodeT)) :: a :: @List.nil (den NodeT.list))) nm rows) false) (allFit (makeF 4 0 0 (@List.nil (den TermT)) 0 (makeF 3 0 0 (@List.nil (den TermT)) 0
    (a :: @List.nil (den NodeT.list)) :: makeF 3 0 0 (@List.nil (den TermT)) 0 (b :: @List.nil (den NodeT.list)) :: @List.nil (den NodeT.list)) :: @List.nil (den NodeT.list))))
    (need (impB (selB (alikeB (makeF 9 fr to (@List.nil (den TermT)) 0 (a :: @List.nil (den NodeT.list))) (makeF 3 0 0 (@List.nil (den TermT)) 0 (makeF 8 fr to (@List.nil
    (den TermT)) 0 (makeF 3 0 0 (@List.nil (den TermT)) 0 (a :: @List.nil (den NodeT.list)) :: @List.nil (den NodeT.list)) :: @List.nil (den NodeT.list))) nm rows) (alikeB
    (makeF 8 fr to (@List.nil (den TermT)) 0 (a :: @List.nil (den NodeT.list))) (makeF 10 fr to (@List.nil (den TermT)) 0 (((0, 0, 0, 0, @List.nil (den TermT), 0) ::
    @List.nil (den NodeT)) :: a :: @List.nil (den NodeT.list))) nm rows) false) (midN (makeF 5 0 0 (@List.nil (den TermT)) 0 (a :: b :: @List.nil (den NodeT.list)))))
    (need (impB (selB (alikeB (makeF 9 fr to (@List.nil (den TermT)) 0 (a :: @List.nil (den NodeT.list))) (makeF 3 0 0 (@List.nil (den TermT)) 0 (makeF 8 fr to (@List.nil
    (den TermT)) 0 (makeF 3 0 0 (@List.nil (den TermT)) 0 (a :: @List.nil (den NodeT.list)) :: @List.nil (den NodeT.list)) :: @List.nil (den NodeT.list))) nm rows) (alikeB
    (makeF 8 fr to (@List.nil (den TermT)) 0 (a :: @List.nil (den NodeT.list))) (makeF 10 fr to (@List.nil (den TermT)) 0 (((0, 0, 0, 0, @List.nil (den TermT), 0) ::
    @List.nil (den NodeT)) :: a :: @List.nil (den NodeT.list))) nm rows) false) (midN (makeF 3 0 0 (@List.nil (den TermT)) 0 (makeF 4 0 0 (@List.nil (den TermT)) 0 (makeF
    3 0 0 (@List.nil (den TermT)) 0 (a :: @List.nil (den NodeT.list)) :: makeF 3 0 0 (@List.nil (den TermT)) 0 (b :: @List.nil (den NodeT.list)) :: @List.nil (den NodeT.list))
    :: @List.nil (den NodeT.list))))) (need (impB (selB (alikeB (makeF 9 fr to (@List.nil (den TermT)) 0 (a :: @List.nil (den NodeT.list))) (makeF 3 0 0 (@List.nil (den
    TermT)) 0 (makeF 8 fr to (@List.nil (den TermT)) 0 (makeF 3 0 0 (@List.nil (den TermT)) 0 (a :: @List.nil (den NodeT.list)) :: @List.nil (den NodeT.list)) :: @List.nil
    (den NodeT.list))) nm rows) (alikeB (makeF 8 fr to (@List.nil (den TermT)) 0 (a :: @List.nil (den NodeT.list))) (makeF 10 fr to (@List.nil (den TermT)) 0 (((0, 0,
    0, 0, @List.nil (den TermT), 0) :: @List.nil (den NodeT)) :: a :: @List.nil (den NodeT.list))) nm rows) false) (oneR (lenI rows))) (need (impB (selB (selB (alikeB
    (makeF 9 fr to (@List.nil (den TermT)) 0 (a :: @List.nil (den NodeT.list))) (makeF 3 0 0 (@List.nil (den TermT)) 0 (makeF 8 fr to (@List.nil (den TermT)) 0 (makeF
    3 0 0 (@List.nil (den TermT)) 0 (a :: @List.nil (den NodeT.list)) :: @List.nil (den NodeT.list)) :: @List.nil (den NodeT.list))) nm rows) (alikeB (makeF 8 fr to
    (@List.nil (den TermT)) 0 (a :: @List.nil (den NodeT.list))) (makeF 10 fr to (@List.nil (den TermT)) 0 (((0, 0, 0, 0, @List.nil (den TermT), 0) :: @List.nil (den
    NodeT)) :: a :: @List.nil (den NodeT.list))) nm rows) false) (alikeB (makeF 5 0 0 (@List.nil (den TermT)) 0 (a :: b :: @List.nil (den NodeT.list))) (makeF 3 0 0
    (@List.nil (den TermT)) 0 (makeF 4 0 0 (@List.nil (den TermT)) 0 (makeF 3 0 0 (@List.nil (den TermT)) 0 (a :: @List.nil (den NodeT.list)) :: makeF 3 0 0 (@List.nil
    (den TermT)) 0 (b :: @List.nil (den NodeT.list)) :: @List.nil (den NodeT.list)) :: @List.nil (den NodeT.list))) nm rows) false) (fits (@List.nil (den TermT)))) (need
    (impB (selB (selB (alikeB (makeF 9 fr to (@List.nil (den TermT)) 0 (a :: @List.nil (den NodeT.list))) (makeF 3 0 0 (@List.nil (den TermT)) 0 (makeF 8 fr to (@List.nil
    (den TermT)) 0 (makeF 3 0 0 (@List.nil (den TermT)) 0 (a :: @List.nil (den NodeT.list)) :: @List.nil (den NodeT.list)) :: @List.nil (den NodeT.list))) nm rows) (alikeB
    (makeF 8 fr to (@List.nil (den TermT)) 0 (a :: @List.nil (den NodeT.list))) (makeF 10 fr to (@List.nil (den TermT)) 0 (((0, 0, 0, 0, @List.nil (den TermT), 0) ::
    @List.nil (den NodeT)) :: a :: @List.nil (den NodeT.list))) nm rows) false) (alikeB (makeF 5 0 0 (@List.nil (den TermT)) 0 (a :: b :: @List.nil (den NodeT.list)))
    (makeF 3 0 0 (@List.nil (den TermT)) 0 (makeF 4 0 0 (@List.nil (den TermT)) 0 (makeF 3 0 0 (@List.nil (den TermT)) 0 (a :: @List.nil (den NodeT.list)) :: makeF 3
    0 0 (@List.nil (den TermT)) 0 (b :: @List.nil (den NodeT.list)) :: @List.nil (den NodeT.list)) :: @List.nil (den NodeT.list))) nm rows) false) (allFit (a :: b ::
    @List.nil (den NodeT.list)))) (need (impB (selB (selB (alikeB (makeF 9 fr to (@List.nil (den TermT)) 0 (a :: @List.nil (den NodeT.list))) (makeF 3 0 0 (@List.nil
    (den TermT)) 0 (makeF 8 fr to (@List.nil (den TermT)) 0 (makeF 3 0 0 (@List.nil (den TermT)) 0 (a :: @List.nil (den NodeT.list)) :: @List.nil (den NodeT.list)) ::
    @List.nil (den NodeT.list))) nm rows) (alikeB (makeF 8 fr to (@List.nil (den TermT)) 0 (a :: @List.nil (den NodeT.list))) (makeF 10 fr to (@List.nil (den TermT))
    0 (((0, 0, 0, 0, @List.nil (den TermT), 0) :: @List.nil (den NodeT)) :: a :: @List.nil (den NodeT.list))) nm rows) false) (alikeB (makeF 5 0 0 (@List.nil (den TermT))
    0 (a :: b :: @List.nil (den NodeT.list))) (makeF 3 0 0 (@List.nil (den TermT)) 0 (makeF 4 0 0 (@List.nil (den TermT)) 0 (makeF 3 0 0 (@List.nil (den TermT)) 0 (a
    :: @List.nil (den NodeT.list)) :: makeF 3 0 0 (@List.nil (den TermT)) 0 (b :: @List.nil (den NodeT.list)) :: @List.nil (den NodeT.list)) :: @List.nil (den NodeT.list)))
    nm rows) false) (fits (@List.nil (den TermT)))) (need (impB (selB (selB (alikeB (makeF 9 fr to (@List.nil (den TermT)) 0 (a :: @List.nil (den NodeT.list))) (makeF
    3 0 0 (@List.nil (den TermT)) 0 (makeF 8 fr to (@List.nil (den TermT)) 0 (makeF 3 0 0 (@List.nil (den TermT)) 0 (a :: @List.nil (den NodeT.list)) :: @List.nil (den
    NodeT.list)) :: @List.nil (den NodeT.list))) nm rows) (alikeB (makeF 8 fr to (@List.nil (den TermT)) 0 (a :: @List.nil (den NodeT.list))) (makeF 10 fr to (@List.nil
    (den TermT)) 0 (((0, 0, 0, 0, @List.nil (den TermT), 0) :: @List.nil (den NodeT)) :: a :: @List.nil (den NodeT.list))) nm rows) false) (alikeB (makeF 5 0 0 (@List.nil
    (den TermT)) 0 (a :: b :: @List.nil (den NodeT.list))) (makeF 3 0 0 (@List.nil (den TermT)) 0 (makeF 4 0 0 (@List.nil (den TermT)) 0 (makeF 3 0 0 (@List.nil (den
    TermT)) 0 (a :: @List.nil (den NodeT.list)) :: makeF 3 0 0 (@List.nil (den TermT)) 0 (b :: @List.nil (den NodeT.list)) :: @List.nil (den NodeT.list)) :: @List.nil
    (den NodeT.list))) nm rows) false) (allFit (makeF 3 0 0 (@List.nil (den TermT)) 0 (a :: @List.nil (den NodeT.list)) :: b :: @List.nil (den NodeT.list)))) (need (impB
    (selB (selB (alikeB (makeF 9 fr to (@List.nil (den TermT)) 0 (a :: @List.nil (den NodeT.list))) (makeF 3 0 0 (@List.nil (den TermT)) 0 (makeF 8 fr to (@List.nil
    (den TermT)) 0 (makeF 3 0 0 (@List.nil (den TermT)) 0 (a :: @List.nil (den NodeT.list)) :: @List.nil (den NodeT.list)) :: @List.nil (den NodeT.list))) nm rows) (alikeB
    (makeF 8 fr to (@List.nil (den TermT)) 0 (a :: @List.nil (den NodeT.list))) (makeF 10 fr to (@List.nil (den TermT)) 0 (((0, 0, 0, 0, @List.nil (den TermT), 0) ::
    @List.nil (den NodeT)) :: a :: @List.nil (den NodeT.list))) nm rows) false) (alikeB (makeF 5 0 0 (@List.nil (den TermT)) 0 (a :: b :: @List.nil (den NodeT.list)))
    (makeF 3 0 0 (@List.nil (den TermT)) 0 (makeF 4 0 0 (@List.nil (den TermT)) 0 (makeF 3 0 0 (@List.nil (den TermT)) 0 (a :: @List.nil (den NodeT.list)) :: makeF 3
    0 0 (@List.nil (den TermT)) 0 (b :: @List.nil (den NodeT.list)) :: @List.nil (den NodeT.list)) :: @List.nil (den NodeT.list))) nm rows) false) (midN (makeF 6 0 0
    (@List.nil (den TermT)) 0 (a :: b :: @List.nil (den NodeT.list))))) (need (impB (selB (selB (alikeB (makeF 9 fr to (@List.nil (den TermT)) 0 (a :: @List.nil (den
    NodeT.list))) (makeF 3 0 0 (@List.nil (den TermT)) 0 (makeF 8 fr to (@List.nil (den TermT)) 0 (makeF 3 0 0 (@List.nil (den TermT)) 0 (a :: @List.nil (den NodeT.list))
    :: @List.nil (den NodeT.list)) :: @List.nil (den NodeT.list))) nm rows) (alikeB (makeF 8 fr to (@List.nil (den TermT)) 0 (a :: @List.nil (den NodeT.list))) (makeF
    10 fr to (@List.nil (den TermT)) 0 (((0, 0, 0, 0, @List.nil (den TermT), 0) :: @List.nil (den NodeT)) :: a :: @List.nil (den NodeT.list))) nm rows) false) (alikeB
    (makeF 5 0 0 (@List.nil (den TermT)) 0 (a :: b :: @List.nil (den NodeT.list))) (makeF 3 0 0 (@List.nil (den TermT)) 0 (makeF 4 0 0 (@List.nil (den TermT)) 0 (makeF
    3 0 0 (@List.nil (den TermT)) 0 (a :: @List.nil (den NodeT.list)) :: makeF 3 0 0 (@List.nil (den TermT)) 0 (b :: @List.nil (den NodeT.list)) :: @List.nil (den NodeT.list))
    :: @List.nil (den NodeT.list))) nm rows) false) (midN (makeF 5 0 0 (@List.nil (den TermT)) 0 (makeF 3 0 0 (@List.nil (den TermT)) 0 (a :: @List.nil (den NodeT.list))
    :: b :: @List.nil (den NodeT.list))))) (need (impB (selB (selB (alikeB (makeF 9 fr to (@List.nil (den TermT)) 0 (a :: @List.nil (den NodeT.list))) (makeF 3 0 0 (@List.nil
    (den TermT)) 0 (makeF 8 fr to (@List.nil (den TermT)) 0 (makeF 3 0 0 (@List.nil (den TermT)) 0 (a :: @List.nil (den NodeT.list)) :: @List.nil (den NodeT.list)) ::
    @List.nil (den NodeT.list))) nm rows) (alikeB (makeF 8 fr to (@List.nil (den TermT)) 0 (a :: @List.nil (den NodeT.list))) (makeF 10 fr to (@List.nil (den TermT))
    0 (((0, 0, 0, 0, @List.nil (den TermT), 0) :: @List.nil (den NodeT)) :: a :: @List.nil (den NodeT.list))) nm rows) false) (alikeB (makeF 5 0 0 (@List.nil (den TermT))
    0 (a :: b :: @List.nil (den NodeT.list))) (makeF 3 0 0 (@List.nil (den TermT)) 0 (makeF 4 0 0 (@List.nil (den TermT)) 0 (makeF 3 0 0 (@List.nil (den TermT)) 0 (a
    :: @List.nil (den NodeT.list)) :: makeF 3 0 0 (@List.nil (den TermT)) 0 (b :: @List.nil (den NodeT.list)) :: @List.nil (den NodeT.list)) :: @List.nil (den NodeT.list)))
    nm rows) false) (oneR (lenI rows))) (AOut.ret (AV.bool (selB (selB (selB (alikeB (makeF 9 fr to (@List.nil (den TermT)) 0 (a :: @List.nil (den NodeT.list))) (makeF
    3 0 0 (@List.nil (den TermT)) 0 (makeF 8 fr to (@List.nil (den TermT)) 0 (makeF 3 0 0 (@List.nil (den TermT)) 0 (a :: @List.nil (den NodeT.list)) :: @List.nil (den
    NodeT.list)) :: @List.nil (den NodeT.list))) nm rows) (alikeB (makeF 8 fr to (@List.nil (den TermT)) 0 (a :: @List.nil (den NodeT.list))) (makeF 10 fr to (@List.nil
    (den TermT)) 0 (((0, 0, 0, 0, @List.nil (den TermT), 0) :: @List.nil (den NodeT)) :: a :: @List.nil (den NodeT.list))) nm rows) false) (alikeB (makeF 5 0 0 (@List.nil
    (den TermT)) 0 (a :: b :: @List.nil (den NodeT.list))) (makeF 3 0 0 (@List.nil (den TermT)) 0 (makeF 4 0 0 (@List.nil (den TermT)) 0 (makeF 3 0 0 (@List.nil (den
    TermT)) 0 (a :: @List.nil (den NodeT.list)) :: makeF 3 0 0 (@List.nil (den TermT)) 0 (b :: @List.nil (den NodeT.list)) :: @List.nil (den NodeT.list)) :: @List.nil
    (den NodeT.list))) nm rows) false) (alikeB (makeF 6 0 0 (@List.nil (den TermT)) 0 (a :: b :: @List.nil (den NodeT.list))) (makeF 5 0 0 (@List.nil (den TermT)) 0
    (makeF 3 0 0 (@List.nil (den TermT)) 0 (a :: @List.nil (den NodeT.list)) :: b :: @List.nil (den NodeT.list))) nm rows) false)) = AOut.ret (AV.bool true))))))))))))))))))))))))))))))))))))))) := by kernel_rfl
theorem TraceDuals_call : CallOK Try.prog (acall tab fs_alike specs_part fns 100 20) := mkCall fsOK_alike specsOK_part fnsOK
theorem TraceDuals_go (a b : List (den NodeT)) (fr to : Int) (nm : List (den .str)) (rows : List (den (.list (.int .i64)))) : LawEv (acall tab fs_alike specs_part fns 100 20) 8 [.view [] NodeT a, .view [] NodeT b, .int .i64 fr, .int .i64 to, .view [] .str nm, .view [] (.list (.int .i64)) rows] := by
  refine ⟨?_⟩
  rw [TraceDuals_eq]
  rw [ifB_def]
  refine ⟨fun _ => rfl, fun hg => ?_⟩
  simp only [selB_t, notB_def, Bool.or_eq_false_iff, Bool.not_eq_false'] at hg
  obtain ⟨⟨⟨⟨⟨⟨⟨g1, g2⟩, g3⟩, g4⟩, g5⟩, g6⟩, g7⟩, g8⟩ := hg
  have ka : okS a 300 := ⟨(valid_fit g1).2, (valid_right g1).2⟩
  have kb : okS b 300 := ⟨(valid_fit g2).2, (valid_right g2).2⟩
  have kt : okS (((0 : Int), (0 : Int), (0 : Int), (0 : Int), @List.nil (den TermT), (0 : Int)) :: @List.nil (den NodeT)) 1 := ⟨fun x hx => by rw [List.mem_singleton] at hx; rw [hx]; unfold fits lenI; simp, by simp [lenI]⟩
  have kna := okS_one 3 0 0 ka
  have knb := okS_one 3 0 0 kb
  have kh := okS_one 9 fr to ka
  have ko := okS_one 8 fr to ka
  have kon := okS_one 8 fr to kna
  have knon := okS_one 3 0 0 kon
  have ks := okS_two 10 fr to kt ka
  have kor := okS_two 5 0 0 ka kb
  have kand := okS_two 4 0 0 kna knb
  have knand := okS_one 3 0 0 kand
  have kth := okS_two 6 0 0 ka kb
  have korn := okS_two 5 0 0 kna kb
  have pa := (valid_right g1).1
  have pb := (valid_right g2).1
  have A1 := alike_of (nm := nm) (rows := rows) (okS_mid kh (by decide)) fun e f => dual1 pa e f
  have A2 := alike_of (nm := nm) (rows := rows) (okS_mid ko (by decide)) fun e f => dual2 pa e f
  have A3 := alike_of (nm := nm) (rows := rows) (okS_mid kor (by decide)) fun e f => dual3 pa pb e f
  have A4 := alike_of (nm := nm) (rows := rows) (okS_mid kth (by decide)) fun e f => dual4 pa pb e f
  have f1 : fits (@List.nil (den TermT)) := by unfold fits lenI; simp
  have hro : oneR (lenI rows) := by
    unfold rowsB at g4
    simp only [Bool.and_eq_true, decide_eq_true_eq] at g4
    unfold oneR; omega
  rw [A1, A2, A3, A4]
  simp only [simpsL, implies_true, forall_const, if_true, if_false, reduceCtorEq, f1, hro, allFit_one (okS_t ka (by decide)), allFit_one (okS_t kb (by decide)), allFit_one (okS_t kna (by decide)), allFit_one (okS_t kon (by decide)), allFit_one (okS_t kand (by decide)), allFit_two (okS_t kt (by decide)) (okS_t ka (by decide)), allFit_two (okS_t ka (by decide)) (okS_t kb (by decide)), allFit_two (okS_t kna (by decide)) (okS_t knb (by decide)), allFit_two (okS_t kna (by decide)) (okS_t kb (by decide)), okS_mid kh (by decide), okS_mid ko (by decide), okS_mid knon (by decide), okS_mid ks (by decide), okS_mid kor (by decide), okS_mid knand (by decide), okS_mid kth (by decide), okS_mid korn (by decide)]
theorem TraceDuals_ev : ∀ xs : DT [(.list (.prod (.int .i64) (.prod (.int .i64) (.prod (.int .i64) (.prod (.int .i64) (.prod (.list (.prod .str (.int .i64))) (.int .i64))))))), (.list (.prod (.int .i64) (.prod (.int .i64) (.prod (.int .i64) (.prod (.int .i64) (.prod (.list (.prod .str (.int .i64))) (.int .i64))))))), (.int .i64), (.int .i64), (.list .str), (.list (.list (.int .i64)))], wfs [(.list (.prod (.int .i64) (.prod (.int .i64) (.prod (.int .i64) (.prod (.int .i64) (.prod (.list (.prod .str (.int .i64))) (.int .i64))))))), (.list (.prod (.int .i64) (.prod (.int .i64) (.prod (.int .i64) (.prod (.int .i64) (.prod (.list (.prod .str (.int .i64))) (.int .i64))))))), (.int .i64), (.int .i64), (.list .str), (.list (.list (.int .i64)))] xs → LawEv (acall tab fs_alike specs_part fns 100 20) 8 (argsA tab #[28, 28, 3, 3, 25, 30].toList [(.list (.prod (.int .i64) (.prod (.int .i64) (.prod (.int .i64) (.prod (.int .i64) (.prod (.list (.prod .str (.int .i64))) (.int .i64))))))), (.list (.prod (.int .i64) (.prod (.int .i64) (.prod (.int .i64) (.prod (.int .i64) (.prod (.list (.prod .str (.int .i64))) (.int .i64))))))), (.int .i64), (.int .i64), (.list .str), (.list (.list (.int .i64)))] xs) := by
  rintro ⟨a, b, fr, to, nm, rows, ⟨⟩⟩ hw
  exact TraceDuals_go a b fr to nm rows



theorem TraceDuals_own : ownKnob Try.prog.godebug = none := by kernel_rfl
theorem TraceDuals_kids : Kids Try.prog (· < Try.prog.types.size) := kids_rows (by kernel_rfl) (by kernel_rfl)
theorem TraceDuals_full : ∀ t e, t < Try.prog.types.size → Try.prog.underlying t = some (.slice e) → 0 < Try.prog.cellsOf e := slices_full_of _ (by kernel_rfl)

theorem TraceDuals_lifted (os : Os) (started : os.Started) (H : Type) (enc : TypeId × Value → H) :
    ReturnsInHanded {} Try.checked os 8 .any (Rows.traceDualsSpec.pre6 enc Try.prog Try.f8 Rows.traceDualsRow.domain false) (Rows.traceDualsSpec.post enc Try.prog Try.f8 false true false false) := by
  refine returnsInHanded_of_change_shaped (C := Try.checked) TraceDuals_own started (by kernel_rfl) Try.func8
    (ChangeSpec.witness6 (enc := enc) (C := Try.checked) false ⟨#[], #[(Value.slice none 0 0), (Value.slice none 0 0), (Value.int IntKind.i64 0), (Value.int IntKind.i64 0), (Value.slice none 0 0), (Value.slice none 0 0)], []⟩ 8 (by kernel_rfl) (by kernel_rfl) (by kernel_rfl) (by kernel_rfl)) ?_
  intro W base args ds gs before hval hW _ hwt _ _
  refine law_contract' (P := Try.prog) (fn := Try.f8) (s := Rows.traceDualsSpec) (tb := 4) (Ts := [(.list (.prod (.int .i64) (.prod (.int .i64) (.prod (.int .i64) (.prod (.int .i64) (.prod (.list (.prod .str (.int .i64))) (.int .i64))))))), (.list (.prod (.int .i64) (.prod (.int .i64) (.prod (.int .i64) (.prod (.int .i64) (.prod (.list (.prod .str (.int .i64))) (.int .i64))))))), (.int .i64), (.int .i64), (.list .str), (.list (.list (.int .i64)))]) (call := (acall tab fs_alike specs_part fns 100 20)) (f := 8) tabOK TraceDuals_call TraceDuals_kids TraceDuals_full Try.params8 (by decide +kernel) rfl rfl Try.underlying4 ?_ (by kernel_rfl) TraceDuals_ev hval hW hwt
  intro ds hl
  match ds, hl with
  | [d0, d1, d2, d3, d4, d5], _ => rfl

theorem TraceDuals_holds : Rows.TraceDualsSaid :=
  OpenClaim.holds_of_wide 8 Try.f8 rfl rfl rfl rfl rfl rfl rfl ⟨rfl, rfl, rfl, rfl, rfl⟩ rfl rfl rfl rfl rfl (by kernel_rfl) Try.func8 (by kernel_rfl)
    (of_decide_eq_true (by kernel_rfl)) (by unfold Func.isWrapper; first | (rw [if_pos (by decide +kernel)]; kernel_rfl) | (rw [if_neg (by decide +kernel)]; exact ⟨rfl, rfl⟩))
    (fun os started H enc _ => TraceDuals_lifted os started H enc)

end Go.Proofs.Ytmdjpohmbkodeaa

/- Yticnfdlfhakneaa: the law PairOlder returns true for every input, and its arguments read as they did: no condition. -/
import Derived.Test.YticnfdlfhakneaaRows
import Derived.Test.YticnfdlfhakneaaSxV
import Derived.Test.YticnfdlfhakneaaSmPairB
import Derived.HandedShaped
namespace Go.Proofs.Yticnfdlfhakneaa
open Go.ChangeShapes Go.WideShapes Go.ChangeAt Go.RowKit Sx
set_option maxRecDepth 100000
set_option linter.unusedVariables false
set_option linter.unusedSimpArgs false
set_option maxHeartbeats 4000000

theorem hasI {a : Int} (h : IntKind.has .i64 a) : rI a := has64.1 h
theorem room_older {h mv ls s h' g' g2 : Int} (hg : g' ≤ g2) (hr : roomF h mv ls s h' g2 = true) : roomF h mv ls s h' g' = true := by
  unfold roomF at *
  rw [decide_eq_true_eq] at *
  have : max s 0 * (max g' 0 + 1) ≤ max s 0 * (max g2 0 + 1) := Int.mul_le_mul_of_nonneg_left (by omega) (by omega)
  omega
theorem gap_older {h h' g' g2 s : Int} (hg : g' ≤ g2) : gapF h h' g2 s ≤ gapF h h' g' s := by
  unfold gapF
  have : max s 0 * max g' 0 ≤ max s 0 * max g2 0 := Int.mul_le_mul_of_nonneg_left (by omega) (by omega)
  split <;> split <;> omega
theorem PairOlder_eq (i h g i' h' g' i2 h2 g2 mv ls s more : Int) : acall tab fs_alive specs_size fns 100 20 5 [.agg [.int .i64 i, .int .i64 h, .int .i64 g], .agg [.int .i64 i', .int .i64 h', .int .i64 g'], .agg [.int .i64 i2, .int .i64 h2, .int .i64 g2], .int .i64 mv, .int .i64 ls, .int .i64 s, .int .i64 more] [] (fun o _ _ _ => o = .ret (.bool true)) =
  (ifB (selB (selB (selB (ltB more 0) true (ltB g' 0)) true (ltB 4611686018427387904 g')) true (ltB 2305843009213693952 more)) (AOut.ret (AV.bool true) = AOut.ret (AV.bool
    true)) (eqI i i (eqI h h (eqI g g (eqI mv mv (eqI ls ls (eqI s s (eqI i' i' (eqI h' h' (eqI g' g' (eqI i i (eqI h h (eqI g g (eqI mv mv (eqI ls ls (eqI s s (eqI
    i' i' (eqI h' h' (eqI (addW IntKind.i64 g' more) (addW IntKind.i64 g' more) (need (eqI i i (eqI h h (eqI g g (eqI mv mv (eqI ls ls (eqI s s (eqI i i (eqI h h (eqI
    g g (eqI mv mv (eqI ls ls (eqI s s (eqI i' i' (eqI h' h' (eqI (addW IntKind.i64 g' more) (addW IntKind.i64 g' more) (need (need (lenOK (lenI ((i', h', g') :: @List.nil
    (den SeenT)))) (need (rI h) (need (rI mv) (need (rI ls) (need (rI s) (need (rIs ((i', h', g') :: @List.nil (den SeenT))) (eqI i i (eqI h h (eqI g g (eqI mv mv (eqI
    ls ls (eqI s s (eqI i' i' (eqI h' h' (eqI (addW IntKind.i64 g' more) (addW IntKind.i64 g' more) (eqI i i (eqI h h (eqI g g (eqI mv mv (eqI ls ls (eqI s s (need (lenOK
    (lenI ((i', h', addW IntKind.i64 g' more) :: @List.nil (den SeenT)))) (need (rI h) (need (rI mv) (need (rI ls) (need (rI s) (need (rIs ((i', h', addW IntKind.i64
    g' more) :: @List.nil (den SeenT))) (need (lenOK (lenI ((i', h', g') :: (i2, h2, g2) :: @List.nil (den SeenT)))) (need (rI h) (need (rI mv) (need (rI ls) (need (rI
    s) (need (rIs ((i', h', g') :: (i2, h2, g2) :: @List.nil (den SeenT))) (ifB (notB (safeF h mv ls s ((i', h', addW IntKind.i64 g' more) :: @List.nil (den SeenT))))
    (need (eqT true true) (ifB (notB (safeF h mv ls s ((i', h', g') :: (i2, h2, g2) :: @List.nil (den SeenT)))) (need (eqT true true) (eqL true true (eqL (safeF h mv
    ls s ((i', h', addW IntKind.i64 g' more) :: @List.nil (den SeenT))) (safeF h mv ls s ((i', h', addW IntKind.i64 g' more) :: @List.nil (den SeenT))) (eqL (notB (safeF
    h mv ls s ((i', h', addW IntKind.i64 g' more) :: @List.nil (den SeenT)))) (notB (safeF h mv ls s ((i', h', addW IntKind.i64 g' more) :: @List.nil (den SeenT))))
    (eqL (notB (safeF h mv ls s ((i', h', addW IntKind.i64 g' more) :: @List.nil (den SeenT)))) true (need (eqT true true) (eqL true true (eqL true true (eqL true true
    (eqL (safeF h mv ls s ((i', h', g') :: (i2, h2, g2) :: @List.nil (den SeenT))) (safeF h mv ls s ((i', h', g') :: (i2, h2, g2) :: @List.nil (den SeenT))) (eqL (notB
    (safeF h mv ls s ((i', h', g') :: (i2, h2, g2) :: @List.nil (den SeenT)))) (notB (safeF h mv ls s ((i', h', g') :: (i2, h2, g2) :: @List.nil (den SeenT)))) (eqL
    (notB (safeF h mv ls s ((i', h', g') :: (i2, h2, g2) :: @List.nil (den SeenT)))) true (need (eqT true true) (eqL true true (eqL true true (eqL true true (eqI i i
    (eqI h h (eqI g g (eqI i' i' (eqI h' h' (eqI (addW IntKind.i64 g' more) (addW IntKind.i64 g' more) (eqI s s (eqI i i (eqI h h (eqI g g (eqI i' i' (eqI h' h' (eqI
    g' g' (eqI s s (need (rI h) (need (rI h') (need (rI (addW IntKind.i64 g' more)) (need (rI s) (eqL true true (eqL (safeF h mv ls s ((i', h', addW IntKind.i64 g' more)
    :: @List.nil (den SeenT))) (safeF h mv ls s ((i', h', addW IntKind.i64 g' more) :: @List.nil (den SeenT))) (eqL (notB (safeF h mv ls s ((i', h', addW IntKind.i64
    g' more) :: @List.nil (den SeenT)))) (notB (safeF h mv ls s ((i', h', addW IntKind.i64 g' more) :: @List.nil (den SeenT)))) (eqL (notB (safeF h mv ls s ((i', h',
    addW IntKind.i64 g' more) :: @List.nil (den SeenT)))) true (need (eqT true true) (eqL true true (eqL true true (eqL true true (eqL (safeF h mv ls s ((i', h', g')
    :: (i2, h2, g2) :: @List.nil (den SeenT))) (safeF h mv ls s ((i', h', g') :: (i2, h2, g2) :: @List.nil (den SeenT))) (eqL (notB (safeF h mv ls s ((i', h', g') ::
    (i2, h2, g2) :: @List.nil (den SeenT)))) (notB (safeF h mv ls s ((i', h', g') :: (i2, h2, g2) :: @List.nil (den SeenT)))) (eqL (notB (safeF h mv ls s ((i', h', g')
    :: (i2, h2, g2) :: @List.nil (den SeenT)))) true (need (eqT true true) (eqL true true (eqL true true (eqI i i (eqI h h (eqI g g (eqI i' i' (eqI h' h' (eqI g' g'
    (eqI s s (need (rI h) (need (rI h') (need (rI g') (need (rI s) (eqL true true (eqL (safeF h mv ls s ((i', h', addW IntKind.i64 g' more) :: @List.nil (den SeenT)))
    (safeF h mv ls s ((i', h', addW IntKind.i64 g' more) :: @List.nil (den SeenT))) (eqL (notB (safeF h mv ls s ((i', h', addW IntKind.i64 g' more) :: @List.nil (den
    SeenT)))) (notB (safeF h mv ls s ((i', h', addW IntKind.i64 g' more) :: @List.nil (den SeenT)))) (eqL (notB (safeF h mv ls s ((i', h', addW IntKind.i64 g' more)
    :: @List.nil (den SeenT)))) true (need (eqT true true) (eqL true true (eqL true true (eqL true true (eqL (safeF h mv ls s ((i', h', g') :: (i2, h2, g2) :: @List.nil
    (den SeenT))) (safeF h mv ls s ((i', h', g') :: (i2, h2, g2) :: @List.nil (den SeenT))) (eqL (notB (safeF h mv ls s ((i', h', g') :: (i2, h2, g2) :: @List.nil (den
    SeenT)))) (notB (safeF h mv ls s ((i', h', g') :: (i2, h2, g2) :: @List.nil (den SeenT)))) (eqL (notB (safeF h mv ls s ((i', h', g') :: (i2, h2, g2) :: @List.nil
    (den SeenT)))) true (need (eqT true true) (eqL true true (eqL true true (eqL (leB (gapF h h' (addW IntKind.i64 g' more) s) (gapF h h' g' s)) (leB (gapF h h' (addW
    IntKind.i64 g' more) s) (gapF h h' g' s)) (eqL (leB (gapF h h' (addW IntKind.i64 g' more) s) (gapF h h' g' s)) (leB (gapF h h' (addW IntKind.i64 g' more) s) (gapF
    h h' g' s)) (AOut.ret (AV.bool (leB (gapF h h' (addW IntKind.i64 g' more) s) (gapF h h' g' s))) = AOut.ret (AV.bool true)))))))))))))))))))))))))))))))))))))))))))))))))))))))))))))))))))))))))))))
    (ifB (safeF h mv ls s ((i', h', g') :: @List.nil (den SeenT))) (eqL true true (eqL (safeF h mv ls s ((i', h', addW IntKind.i64 g' more) :: @List.nil (den SeenT)))
    (safeF h mv ls s ((i', h', addW IntKind.i64 g' more) :: @List.nil (den SeenT))) (eqL (notB (safeF h mv ls s ((i', h', addW IntKind.i64 g' more) :: @List.nil (den
    SeenT)))) (notB (safeF h mv ls s ((i', h', addW IntKind.i64 g' more) :: @List.nil (den SeenT)))) (eqL (notB (safeF h mv ls s ((i', h', addW IntKind.i64 g' more)
    :: @List.nil (den SeenT)))) true (need (eqT true true) (eqL true true (eqL true true (eqL true true (eqL (safeF h mv ls s ((i', h', g') :: (i2, h2, g2) :: @List.nil
    (den SeenT))) (safeF h mv ls s ((i', h', g') :: (i2, h2, g2) :: @List.nil (den SeenT))) (eqL (notB (safeF h mv ls s ((i', h', g') :: (i2, h2, g2) :: @List.nil (den
    SeenT)))) (notB (safeF h mv ls s ((i', h', g') :: (i2, h2, g2) :: @List.nil (den SeenT)))) (eqL (notB (safeF h mv ls s ((i', h', g') :: (i2, h2, g2) :: @List.nil
    (den SeenT)))) false (eqL (safeF h mv ls s ((i', h', g') :: @List.nil (den SeenT))) (safeF h mv ls s ((i', h', g') :: @List.nil (den SeenT))) (eqL (safeF h mv ls
    s ((i', h', g') :: @List.nil (den SeenT))) (safeF h mv ls s ((i', h', g') :: @List.nil (den SeenT))) (eqL (safeF h mv ls s ((i', h', g') :: @List.nil (den SeenT)))
    (safeF h mv ls s ((i', h', g') :: @List.nil (den SeenT))) (eqL (safeF h mv ls s ((i', h', g') :: @List.nil (den SeenT))) true (eqI i i (eqI h h (eqI g g (eqI i'
    i' (eqI h' h' (eqI (addW IntKind.i64 g' more) (addW IntKind.i64 g' more) (eqI s s (eqI i i (eqI h h (eqI g g (eqI i' i' (eqI h' h' (eqI g' g' (eqI s s (need (rI
    h) (need (rI h') (need (rI (addW IntKind.i64 g' more)) (need (rI s) (eqL true true (eqL (safeF h mv ls s ((i', h', addW IntKind.i64 g' more) :: @List.nil (den SeenT)))
    (safeF h mv ls s ((i', h', addW IntKind.i64 g' more) :: @List.nil (den SeenT))) (eqL (notB (safeF h mv ls s ((i', h', addW IntKind.i64 g' more) :: @List.nil (den
    SeenT)))) (notB (safeF h mv ls s ((i', h', addW IntKind.i64 g' more) :: @List.nil (den SeenT)))) (eqL (notB (safeF h mv ls s ((i', h', addW IntKind.i64 g' more)
    :: @List.nil (den SeenT)))) true (need (eqT true true) (eqL true true (eqL true true (eqL true true (eqL (safeF h mv ls s ((i', h', g') :: (i2, h2, g2) :: @List.nil
    (den SeenT))) (safeF h mv ls s ((i', h', g') :: (i2, h2, g2) :: @List.nil (den SeenT))) (eqL (notB (safeF h mv ls s ((i', h', g') :: (i2, h2, g2) :: @List.nil (den
    SeenT)))) (notB (safeF h mv ls s ((i', h', g') :: (i2, h2, g2) :: @List.nil (den SeenT)))) (eqL (notB (safeF h mv ls s ((i', h', g') :: (i2, h2, g2) :: @List.nil
    (den SeenT)))) false (eqL (safeF h mv ls s ((i', h', g') :: @List.nil (den SeenT))) (safeF h mv ls s ((i', h', g') :: @List.nil (den SeenT))) (eqL (safeF h mv ls
    s ((i', h', g') :: @List.nil (den SeenT))) (safeF h mv ls s ((i', h', g') :: @List.nil (den SeenT))) (eqL (safeF h mv ls s ((i', h', g') :: @List.nil (den SeenT)))
    (safeF h mv ls s ((i', h', g') :: @List.nil (den SeenT))) (eqI i i (eqI h h (eqI g g (eqI i' i' (eqI h' h' (eqI g' g' (eqI s s (need (rI h) (need (rI h') (need (rI
    g') (need (rI s) (eqL true true (eqL (safeF h mv ls s ((i', h', addW IntKind.i64 g' more) :: @List.nil (den SeenT))) (safeF h mv ls s ((i', h', addW IntKind.i64
    g' more) :: @List.nil (den SeenT))) (eqL (notB (safeF h mv ls s ((i', h', addW IntKind.i64 g' more) :: @List.nil (den SeenT)))) (notB (safeF h mv ls s ((i', h',
    addW IntKind.i64 g' more) :: @List.nil (den SeenT)))) (eqL (notB (safeF h mv ls s ((i', h', addW IntKind.i64 g' more) :: @List.nil (den SeenT)))) true (need (eqT
    true true) (eqL true true (eqL true true (eqL true true (eqL (safeF h mv ls s ((i', h', g') :: (i2, h2, g2) :: @List.nil (den SeenT))) (safeF h mv ls s ((i', h',
    g') :: (i2, h2, g2) :: @List.nil (den SeenT))) (eqL (notB (safeF h mv ls s ((i', h', g') :: (i2, h2, g2) :: @List.nil (den SeenT)))) (notB (safeF h mv ls s ((i',
    h', g') :: (i2, h2, g2) :: @List.nil (den SeenT)))) (eqL (notB (safeF h mv ls s ((i', h', g') :: (i2, h2, g2) :: @List.nil (den SeenT)))) false (eqL (safeF h mv
    ls s ((i', h', g') :: @List.nil (den SeenT))) (safeF h mv ls s ((i', h', g') :: @List.nil (den SeenT))) (eqL (safeF h mv ls s ((i', h', g') :: @List.nil (den SeenT)))
    (safeF h mv ls s ((i', h', g') :: @List.nil (den SeenT))) (eqL (safeF h mv ls s ((i', h', g') :: @List.nil (den SeenT))) (safeF h mv ls s ((i', h', g') :: @List.nil
    (den SeenT))) (eqL (leB (gapF h h' (addW IntKind.i64 g' more) s) (gapF h h' g' s)) (leB (gapF h h' (addW IntKind.i64 g' more) s) (gapF h h' g' s)) (eqL (leB (gapF
    h h' (addW IntKind.i64 g' more) s) (gapF h h' g' s)) (leB (gapF h h' (addW IntKind.i64 g' more) s) (gapF h h' g' s)) (AOut.ret (AV.bool (leB (gapF h h' (addW IntKind.i64
    g' more) s) (gapF h h' g' s))) = AOut.ret (AV.bool true)))))))))))))))))))))))))))))))))))))))))))))))))))))))))))))))))))))))))))) (eqL true true (eqL (safeF h
    mv ls s ((i', h', addW IntKind.i64 g' more) :: @List.nil (den SeenT))) (safeF h mv ls s ((i', h', addW IntKind.i64 g' more) :: @List.nil (den SeenT))) (eqL (notB
    (safeF h mv ls s ((i', h', addW IntKind.i64 g' more) :: @List.nil (den SeenT)))) (notB (safeF h mv ls s ((i', h', addW IntKind.i64 g' more) :: @List.nil (den SeenT))))
    (eqL (notB (safeF h mv ls s ((i', h', addW IntKind.i64 g' more) :: @List.nil (den SeenT)))) true (need (eqT true true) (eqL true true (eqL true true (eqL true true
    (eqL (safeF h mv ls s ((i', h', g') :: (i2, h2, g2) :: @List.nil (den SeenT))) (safeF h mv ls s ((i', h', g') :: (i2, h2, g2) :: @List.nil (den SeenT))) (eqL (notB
    (safeF h mv ls s ((i', h', g') :: (i2, h2, g2) :: @List.nil (den SeenT)))) (notB (safeF h mv ls s ((i', h', g') :: (i2, h2, g2) :: @List.nil (den SeenT)))) (eqL
    (notB (safeF h mv ls s ((i', h', g') :: (i2, h2, g2) :: @List.nil (den SeenT)))) false (eqL (safeF h mv ls s ((i', h', g') :: @List.nil (den SeenT))) (safeF h mv
    ls s ((i', h', g') :: @List.nil (den SeenT))) (eqL (safeF h mv ls s ((i', h', g') :: @List.nil (den SeenT))) (safeF h mv ls s ((i', h', g') :: @List.nil (den SeenT)))
    (eqL (safeF h mv ls s ((i', h', g') :: @List.nil (den SeenT))) (safeF h mv ls s ((i', h', g') :: @List.nil (den SeenT))) (eqL (safeF h mv ls s ((i', h', g') :: @List.nil
    (den SeenT))) false (eqL true true (eqL (safeF h mv ls s ((i', h', addW IntKind.i64 g' more) :: @List.nil (den SeenT))) (safeF h mv ls s ((i', h', addW IntKind.i64
    g' more) :: @List.nil (den SeenT))) (eqL (notB (safeF h mv ls s ((i', h', addW IntKind.i64 g' more) :: @List.nil (den SeenT)))) (notB (safeF h mv ls s ((i', h',
    addW IntKind.i64 g' more) :: @List.nil (den SeenT)))) (eqL (notB (safeF h mv ls s ((i', h', addW IntKind.i64 g' more) :: @List.nil (den SeenT)))) true (need (eqT
    true true) (eqL true true (eqL true true (eqL true true (eqL (safeF h mv ls s ((i', h', g') :: (i2, h2, g2) :: @List.nil (den SeenT))) (safeF h mv ls s ((i', h',
    g') :: (i2, h2, g2) :: @List.nil (den SeenT))) (eqL (notB (safeF h mv ls s ((i', h', g') :: (i2, h2, g2) :: @List.nil (den SeenT)))) (notB (safeF h mv ls s ((i',
    h', g') :: (i2, h2, g2) :: @List.nil (den SeenT)))) (eqL (notB (safeF h mv ls s ((i', h', g') :: (i2, h2, g2) :: @List.nil (den SeenT)))) false (eqL (safeF h mv
    ls s ((i', h', g') :: @List.nil (den SeenT))) (safeF h mv ls s ((i', h', g') :: @List.nil (den SeenT))) (eqL (safeF h mv ls s ((i', h', g') :: @List.nil (den SeenT)))
    (safeF h mv ls s ((i', h', g') :: @List.nil (den SeenT))) (eqL (safeF h mv ls s ((i', h', g') :: @List.nil (den SeenT))) (safeF h mv ls s ((i', h', g') :: @List.nil
    (den SeenT))) (need (eqT false false) (eqL true true (eqL (safeF h mv ls s ((i', h', addW IntKind.i64 g' more) :: @List.nil (den SeenT))) (safeF h mv ls s ((i',
    h', addW IntKind.i64 g' more) :: @List.nil (den SeenT))) (eqL (notB (safeF h mv ls s ((i', h', addW IntKind.i64 g' more) :: @List.nil (den SeenT)))) (notB (safeF
    h mv ls s ((i', h', addW IntKind.i64 g' more) :: @List.nil (den SeenT)))) (eqL (notB (safeF h mv ls s ((i', h', addW IntKind.i64 g' more) :: @List.nil (den SeenT))))
    true (need (eqT true true) (eqL true true (eqL true true (eqL true true (eqL (safeF h mv ls s ((i', h', g') :: (i2, h2, g2) :: @List.nil (den SeenT))) (safeF h mv
    ls s ((i', h', g') :: (i2, h2, g2) :: @List.nil (den SeenT))) (eqL (notB (safeF h mv ls s ((i', h', g') :: (i2, h2, g2) :: @List.nil (den SeenT)))) (notB (safeF
    h mv ls s ((i', h', g') :: (i2, h2, g2) :: @List.nil (den SeenT)))) (eqL (notB (safeF h mv ls s ((i', h', g') :: (i2, h2, g2) :: @List.nil (den SeenT)))) false (eqL
    (safeF h mv ls s ((i', h', g') :: @List.nil (den SeenT))) (safeF h mv ls s ((i', h', g') :: @List.nil (den SeenT))) (eqL (safeF h mv ls s ((i', h', g') :: @List.nil
    (den SeenT))) (safeF h mv ls s ((i', h', g') :: @List.nil (den SeenT))) (eqL (safeF h mv ls s ((i', h', g') :: @List.nil (den SeenT))) (safeF h mv ls s ((i', h',
    g') :: @List.nil (den SeenT))) (need (eqT false false) (eqL false false (AOut.ret (AV.bool false) = AOut.ret (AV.bool true)))))))))))))))))))))))))))))))))))))))))))))))))))
    (ifB (safeF h mv ls s ((i', h', g') :: @List.nil (den SeenT))) (ifB (notB (safeF h mv ls s ((i', h', g') :: (i2, h2, g2) :: @List.nil (den SeenT)))) (need (eqT true
    true) (eqL true true (eqL (safeF h mv ls s ((i', h', addW IntKind.i64 g' more) :: @List.nil (den SeenT))) (safeF h mv ls s ((i', h', addW IntKind.i64 g' more) ::
    @List.nil (den SeenT))) (eqL (notB (safeF h mv ls s ((i', h', addW IntKind.i64 g' more) :: @List.nil (den SeenT)))) (notB (safeF h mv ls s ((i', h', addW IntKind.i64
    g' more) :: @List.nil (den SeenT)))) (eqL (notB (safeF h mv ls s ((i', h', addW IntKind.i64 g' more) :: @List.nil (den SeenT)))) false (eqL (safeF h mv ls s ((i',
    h', g') :: @List.nil (den SeenT))) (safeF h mv ls s ((i', h', g') :: @List.nil (den SeenT))) (eqL (safeF h mv ls s ((i', h', g') :: @List.nil (den SeenT))) (safeF
    h mv ls s ((i', h', g') :: @List.nil (den SeenT))) (eqL (safeF h mv ls s ((i', h', g') :: @List.nil (den SeenT))) (safeF h mv ls s ((i', h', g') :: @List.nil (den
    SeenT))) (eqL (safeF h mv ls s ((i', h', g') :: @List.nil (den SeenT))) true (eqL (safeF h mv ls s ((i', h', g') :: (i2, h2, g2) :: @List.nil (den SeenT))) (safeF
    h mv ls s ((i', h', g') :: (i2, h2, g2) :: @List.nil (den SeenT))) (eqL (notB (safeF h mv ls s ((i', h', g') :: (i2, h2, g2) :: @List.nil (den SeenT)))) (notB (safeF
    h mv ls s ((i', h', g') :: (i2, h2, g2) :: @List.nil (den SeenT)))) (eqL (notB (safeF h mv ls s ((i', h', g') :: (i2, h2, g2) :: @List.nil (den SeenT)))) true (need
    (eqT true true) (eqL true true (eqL true true (eqL true true (eqI i i (eqI h h (eqI g g (eqI i' i' (eqI h' h' (eqI (addW IntKind.i64 g' more) (addW IntKind.i64 g'
    more) (eqI s s (eqI i i (eqI h h (eqI g g (eqI i' i' (eqI h' h' (eqI g' g' (eqI s s (need (rI h) (need (rI h') (need (rI (addW IntKind.i64 g' more)) (need (rI s)
    (eqL true true (eqL (safeF h mv ls s ((i', h', addW IntKind.i64 g' more) :: @List.nil (den SeenT))) (safeF h mv ls s ((i', h', addW IntKind.i64 g' more) :: @List.nil
    (den SeenT))) (eqL (notB (safeF h mv ls s ((i', h', addW IntKind.i64 g' more) :: @List.nil (den SeenT)))) (notB (safeF h mv ls s ((i', h', addW IntKind.i64 g' more)
    :: @List.nil (den SeenT)))) (eqL (notB (safeF h mv ls s ((i', h', addW IntKind.i64 g' more) :: @List.nil (den SeenT)))) false (eqL (safeF h mv ls s ((i', h', g')
    :: @List.nil (den SeenT))) (safeF h mv ls s ((i', h', g') :: @List.nil (den SeenT))) (eqL (safeF h mv ls s ((i', h', g') :: @List.nil (den SeenT))) (safeF h mv ls
    s ((i', h', g') :: @List.nil (den SeenT))) (eqL (safeF h mv ls s ((i', h', g') :: @List.nil (den SeenT))) (safeF h mv ls s ((i', h', g') :: @List.nil (den SeenT)))
    (eqL (safeF h mv ls s ((i', h', g') :: @List.nil (den SeenT))) true (eqL (safeF h mv ls s ((i', h', g') :: (i2, h2, g2) :: @List.nil (den SeenT))) (safeF h mv ls
    s ((i', h', g') :: (i2, h2, g2) :: @List.nil (den SeenT))) (eqL (notB (safeF h mv ls s ((i', h', g') :: (i2, h2, g2) :: @List.nil (den SeenT)))) (notB (safeF h mv
    ls s ((i', h', g') :: (i2, h2, g2) :: @List.nil (den SeenT)))) (eqL (notB (safeF h mv ls s ((i', h', g') :: (i2, h2, g2) :: @List.nil (den SeenT)))) true (need (eqT
    true true) (eqL true true (eqL true true (eqI i i (eqI h h (eqI g g (eqI i' i' (eqI h' h' (eqI g' g' (eqI s s (need (rI h) (need (rI h') (need (rI g') (need (rI
    s) (eqL true true (eqL (safeF h mv ls s ((i', h', addW IntKind.i64 g' more) :: @List.nil (den SeenT))) (safeF h mv ls s ((i', h', addW IntKind.i64 g' more) :: @List.nil
    (den SeenT))) (eqL (notB (safeF h mv ls s ((i', h', addW IntKind.i64 g' more) :: @List.nil (den SeenT)))) (notB (safeF h mv ls s ((i', h', addW IntKind.i64 g' more)
    :: @List.nil (den SeenT)))) (eqL (notB (safeF h mv ls s ((i', h', addW IntKind.i64 g' more) :: @List.nil (den SeenT)))) false (eqL (safeF h mv ls s ((i', h', g')
    :: @List.nil (den SeenT))) (safeF h mv ls s ((i', h', g') :: @List.nil (den SeenT))) (eqL (safeF h mv ls s ((i', h', g') :: @List.nil (den SeenT))) (safeF h mv ls
    s ((i', h', g') :: @List.nil (den SeenT))) (eqL (safeF h mv ls s ((i', h', g') :: @List.nil (den SeenT))) (safeF h mv ls s ((i', h', g') :: @List.nil (den SeenT)))
    (eqL (safeF h mv ls s ((i', h', g') :: @List.nil (den SeenT))) true (eqL (safeF h mv ls s ((i', h', g') :: (i2, h2, g2) :: @List.nil (den SeenT))) (safeF h mv ls
    s ((i', h', g') :: (i2, h2, g2) :: @List.nil (den SeenT))) (eqL (notB (safeF h mv ls s ((i', h', g') :: (i2, h2, g2) :: @List.nil (den SeenT)))) (notB (safeF h mv
    ls s ((i', h', g') :: (i2, h2, g2) :: @List.nil (den SeenT)))) (eqL (notB (safeF h mv ls s ((i', h', g') :: (i2, h2, g2) :: @List.nil (den SeenT)))) true (need (eqT
    true true) (eqL true true (eqL true true (eqL (leB (gapF h h' (addW IntKind.i64 g' more) s) (gapF h h' g' s)) (leB (gapF h h' (addW IntKind.i64 g' more) s) (gapF
    h h' g' s)) (eqL (leB (gapF h h' (addW IntKind.i64 g' more) s) (gapF h h' g' s)) (leB (gapF h h' (addW IntKind.i64 g' more) s) (gapF h h' g' s)) (AOut.ret (AV.bool
    (leB (gapF h h' (addW IntKind.i64 g' more) s) (gapF h h' g' s))) = AOut.ret (AV.bool true)))))))))))))))))))))))))))))))))))))))))))))))))))))))))))))))))))))))))))))
    (ifB (safeF h mv ls s ((i', h', g') :: @List.nil (den SeenT))) (eqL true true (eqL (safeF h mv ls s ((i', h', addW IntKind.i64 g' more) :: @List.nil (den SeenT)))
    (safeF h mv ls s ((i', h', addW IntKind.i64 g' more) :: @List.nil (den SeenT))) (eqL (notB (safeF h mv ls s ((i', h', addW IntKind.i64 g' more) :: @List.nil (den
    SeenT)))) (notB (safeF h mv ls s ((i', h', addW IntKind.i64 g' more) :: @List.nil (den SeenT)))) (eqL (notB (safeF h mv ls s ((i', h', addW IntKind.i64 g' more)
    :: @List.nil (den SeenT)))) false (eqL (safeF h mv ls s ((i', h', g') :: @List.nil (den SeenT))) (safeF h mv ls s ((i', h', g') :: @List.nil (den SeenT))) (eqL (safeF
    h mv ls s ((i', h', g') :: @List.nil (den SeenT))) (safeF h mv ls s ((i', h', g') :: @List.nil (den SeenT))) (eqL (safeF h mv ls s ((i', h', g') :: @List.nil (den
    SeenT))) (safeF h mv ls s ((i', h', g') :: @List.nil (den SeenT))) (eqL (safeF h mv ls s ((i', h', g') :: @List.nil (den SeenT))) true (eqL (safeF h mv ls s ((i',
    h', g') :: (i2, h2, g2) :: @List.nil (den SeenT))) (safeF h mv ls s ((i', h', g') :: (i2, h2, g2) :: @List.nil (den SeenT))) (eqL (notB (safeF h mv ls s ((i', h',
    g') :: (i2, h2, g2) :: @List.nil (den SeenT)))) (notB (safeF h mv ls s ((i', h', g') :: (i2, h2, g2) :: @List.nil (den SeenT)))) (eqL (notB (safeF h mv ls s ((i',
    h', g') :: (i2, h2, g2) :: @List.nil (den SeenT)))) false (eqL (safeF h mv ls s ((i', h', g') :: @List.nil (den SeenT))) (safeF h mv ls s ((i', h', g') :: @List.nil
    (den SeenT))) (eqL (safeF h mv ls s ((i', h', g') :: @List.nil (den SeenT))) (safeF h mv ls s ((i', h', g') :: @List.nil (den SeenT))) (eqL (safeF h mv ls s ((i',
    h', g') :: @List.nil (den SeenT))) (safeF h mv ls s ((i', h', g') :: @List.nil (den SeenT))) (eqL (safeF h mv ls s ((i', h', g') :: @List.nil (den SeenT))) true
    (eqI i i (eqI h h (eqI g g (eqI i' i' (eqI h' h' (eqI (addW IntKind.i64 g' more) (addW IntKind.i64 g' more) (eqI s s (eqI i i (eqI h h (eqI g g (eqI i' i' (eqI h'
    h' (eqI g' g' (eqI s s (need (rI h) (need (rI h') (need (rI (addW IntKind.i64 g' more)) (need (rI s) (eqL true true (eqL (safeF h mv ls s ((i', h', addW IntKind.i64
    g' more) :: @List.nil (den SeenT))) (safeF h mv ls s ((i', h', addW IntKind.i64 g' more) :: @List.nil (den SeenT))) (eqL (notB (safeF h mv ls s ((i', h', addW IntKind.i64
    g' more) :: @List.nil (den SeenT)))) (notB (safeF h mv ls s ((i', h', addW IntKind.i64 g' more) :: @List.nil (den SeenT)))) (eqL (notB (safeF h mv ls s ((i', h',
    addW IntKind.i64 g' more) :: @List.nil (den SeenT)))) false (eqL (safeF h mv ls s ((i', h', g') :: @List.nil (den SeenT))) (safeF h mv ls s ((i', h', g') :: @List.nil
    (den SeenT))) (eqL (safeF h mv ls s ((i', h', g') :: @List.nil (den SeenT))) (safeF h mv ls s ((i', h', g') :: @List.nil (den SeenT))) (eqL (safeF h mv ls s ((i',
    h', g') :: @List.nil (den SeenT))) (safeF h mv ls s ((i', h', g') :: @List.nil (den SeenT))) (eqL (safeF h mv ls s ((i', h', g') :: @List.nil (den SeenT))) true
    (eqL (safeF h mv ls s ((i', h', g') :: (i2, h2, g2) :: @List.nil (den SeenT))) (safeF h mv ls s ((i', h', g') :: (i2, h2, g2) :: @List.nil (den SeenT))) (eqL (notB
    (safeF h mv ls s ((i', h', g') :: (i2, h2, g2) :: @List.nil (den SeenT)))) (notB (safeF h mv ls s ((i', h', g') :: (i2, h2, g2) :: @List.nil (den SeenT)))) (eqL
    (notB (safeF h mv ls s ((i', h', g') :: (i2, h2, g2) :: @List.nil (den SeenT)))) false (eqL (safeF h mv ls s ((i', h', g') :: @List.nil (den SeenT))) (safeF h mv
    ls s ((i', h', g') :: @List.nil (den SeenT))) (eqL (safeF h mv ls s ((i', h', g') :: @List.nil (den SeenT))) (safeF h mv ls s ((i', h', g') :: @List.nil (den SeenT)))
    (eqL (safeF h mv ls s ((i', h', g') :: @List.nil (den SeenT))) (safeF h mv ls s ((i', h', g') :: @List.nil (den SeenT))) (eqI i i (eqI h h (eqI g g (eqI i' i' (eqI
    h' h' (eqI g' g' (eqI s s (need (rI h) (need (rI h') (need (rI g') (need (rI s) (eqL true true (eqL (safeF h mv ls s ((i', h', addW IntKind.i64 g' more) :: @List.nil
    (den SeenT))) (safeF h mv ls s ((i', h', addW IntKind.i64 g' more) :: @List.nil (den SeenT))) (eqL (notB (safeF h mv ls s ((i', h', addW IntKind.i64 g' more) ::
    @List.nil (den SeenT)))) (notB (safeF h mv ls s ((i', h', addW IntKind.i64 g' more) :: @List.nil (den SeenT)))) (eqL (notB (safeF h mv ls s ((i', h', addW IntKind.i64
    g' more) :: @List.nil (den SeenT)))) false (eqL (safeF h mv ls s ((i', h', g') :: @List.nil (den SeenT))) (safeF h mv ls s ((i', h', g') :: @List.nil (den SeenT)))
    (eqL (safeF h mv ls s ((i', h', g') :: @List.nil (den SeenT))) (safeF h mv ls s ((i', h', g') :: @List.nil (den SeenT))) (eqL (safeF h mv ls s ((i', h', g') :: @List.nil
    (den SeenT))) (safeF h mv ls s ((i', h', g') :: @List.nil (den SeenT))) (eqL (safeF h mv ls s ((i', h', g') :: @List.nil (den SeenT))) true (eqL (safeF h mv ls s
    ((i', h', g') :: (i2, h2, g2) :: @List.nil (den SeenT))) (safeF h mv ls s ((i', h', g') :: (i2, h2, g2) :: @List.nil (den SeenT))) (eqL (notB (safeF h mv ls s ((i',
    h', g') :: (i2, h2, g2) :: @List.nil (den SeenT)))) (notB (safeF h mv ls s ((i', h', g') :: (i2, h2, g2) :: @List.nil (den SeenT)))) (eqL (notB (safeF h mv ls s
    ((i', h', g') :: (i2, h2, g2) :: @List.nil (den SeenT)))) false (eqL (safeF h mv ls s ((i', h', g') :: @List.nil (den SeenT))) (safeF h mv ls s ((i', h', g') ::
    @List.nil (den SeenT))) (eqL (safeF h mv ls s ((i', h', g') :: @List.nil (den SeenT))) (safeF h mv ls s ((i', h', g') :: @List.nil (den SeenT))) (eqL (safeF h mv
    ls s ((i', h', g') :: @List.nil (den SeenT))) (safeF h mv ls s ((i', h', g') :: @List.nil (den SeenT))) (eqL (leB (gapF h h' (addW IntKind.i64 g' more) s) (gapF
    h h' g' s)) (leB (gapF h h' (addW IntKind.i64 g' more) s) (gapF h h' g' s)) (eqL (leB (gapF h h' (addW IntKind.i64 g' more) s) (gapF h h' g' s)) (leB (gapF h h'
    (addW IntKind.i64 g' more) s) (gapF h h' g' s)) (AOut.ret (AV.bool (leB (gapF h h' (addW IntKind.i64 g' more) s) (gapF h h' g' s))) = AOut.ret (AV.bool true))))))))))))))))))))))))))))))))))))))))))))))))))))))))))))))))))))))))))))
    (eqL true true (eqL (safeF h mv ls s ((i', h', addW IntKind.i64 g' more) :: @List.nil (den SeenT))) (safeF h mv ls s ((i', h', addW IntKind.i64 g' more) :: @List.nil
    (den SeenT))) (eqL (notB (safeF h mv ls s ((i', h', addW IntKind.i64 g' more) :: @List.nil (den SeenT)))) (notB (safeF h mv ls s ((i', h', addW IntKind.i64 g' more)
    :: @List.nil (den SeenT)))) (eqL (notB (safeF h mv ls s ((i', h', addW IntKind.i64 g' more) :: @List.nil (den SeenT)))) false (eqL (safeF h mv ls s ((i', h', g')
    :: @List.nil (den SeenT))) (safeF h mv ls s ((i', h', g') :: @List.nil (den SeenT))) (eqL (safeF h mv ls s ((i', h', g') :: @List.nil (den SeenT))) (safeF h mv ls
    s ((i', h', g') :: @List.nil (den SeenT))) (eqL (safeF h mv ls s ((i', h', g') :: @List.nil (den SeenT))) (safeF h mv ls s ((i', h', g') :: @List.nil (den SeenT)))
    (eqL (safeF h mv ls s ((i', h', g') :: @List.nil (den SeenT))) true (eqL (safeF h mv ls s ((i', h', g') :: (i2, h2, g2) :: @List.nil (den SeenT))) (safeF h mv ls
    s ((i', h', g') :: (i2, h2, g2) :: @List.nil (den SeenT))) (eqL (notB (safeF h mv ls s ((i', h', g') :: (i2, h2, g2) :: @List.nil (den SeenT)))) (notB (safeF h mv
    ls s ((i', h', g') :: (i2, h2, g2) :: @List.nil (den SeenT)))) (eqL (notB (safeF h mv ls s ((i', h', g') :: (i2, h2, g2) :: @List.nil (den SeenT)))) false (eqL (safeF
    h mv ls s ((i', h', g') :: @List.nil (den SeenT))) (safeF h mv ls s ((i', h', g') :: @List.nil (den SeenT))) (eqL (safeF h mv ls s ((i', h', g') :: @List.nil (den
    SeenT))) (safeF h mv ls s ((i', h', g') :: @List.nil (den SeenT))) (eqL (safeF h mv ls s ((i', h', g') :: @List.nil (den SeenT))) (safeF h mv ls s ((i', h', g')
    :: @List.nil (den SeenT))) (eqL (safeF h mv ls s ((i', h', g') :: @List.nil (den SeenT))) false (eqL true true (eqL (safeF h mv ls s ((i', h', addW IntKind.i64 g'
    more) :: @List.nil (den SeenT))) (safeF h mv ls s ((i', h', addW IntKind.i64 g' more) :: @List.nil (den SeenT))) (eqL (notB (safeF h mv ls s ((i', h', addW IntKind.i64
    g' more) :: @List.nil (den SeenT)))) (notB (safeF h mv ls s ((i', h', addW IntKind.i64 g' more) :: @List.nil (den SeenT)))) (eqL (notB (safeF h mv ls s ((i', h',
    addW IntKind.i64 g' more) :: @List.nil (den SeenT)))) false (eqL (safeF h mv ls s ((i', h', g') :: @List.nil (den SeenT))) (safeF h mv ls s ((i', h', g') :: @List.nil
    (den SeenT))) (eqL (safeF h mv ls s ((i', h', g') :: @List.nil (den SeenT))) (safeF h mv ls s ((i', h', g') :: @List.nil (den SeenT))) (eqL (safeF h mv ls s ((i',
    h', g') :: @List.nil (den SeenT))) (safeF h mv ls s ((i', h', g') :: @List.nil (den SeenT))) (eqL (safeF h mv ls s ((i', h', g') :: @List.nil (den SeenT))) true
    (eqL (safeF h mv ls s ((i', h', g') :: (i2, h2, g2) :: @List.nil (den SeenT))) (safeF h mv ls s ((i', h', g') :: (i2, h2, g2) :: @List.nil (den SeenT))) (eqL (notB
    (safeF h mv ls s ((i', h', g') :: (i2, h2, g2) :: @List.nil (den SeenT)))) (notB (safeF h mv ls s ((i', h', g') :: (i2, h2, g2) :: @List.nil (den SeenT)))) (eqL
    (notB (safeF h mv ls s ((i', h', g') :: (i2, h2, g2) :: @List.nil (den SeenT)))) false (eqL (safeF h mv ls s ((i', h', g') :: @List.nil (den SeenT))) (safeF h mv
    ls s ((i', h', g') :: @List.nil (den SeenT))) (eqL (safeF h mv ls s ((i', h', g') :: @List.nil (den SeenT))) (safeF h mv ls s ((i', h', g') :: @List.nil (den SeenT)))
    (eqL (safeF h mv ls s ((i', h', g') :: @List.nil (den SeenT))) (safeF h mv ls s ((i', h', g') :: @List.nil (den SeenT))) (need (eqT false false) (eqL true true (eqL
    (safeF h mv ls s ((i', h', addW IntKind.i64 g' more) :: @List.nil (den SeenT))) (safeF h mv ls s ((i', h', addW IntKind.i64 g' more) :: @List.nil (den SeenT))) (eqL
    (notB (safeF h mv ls s ((i', h', addW IntKind.i64 g' more) :: @List.nil (den SeenT)))) (notB (safeF h mv ls s ((i', h', addW IntKind.i64 g' more) :: @List.nil (den
    SeenT)))) (eqL (notB (safeF h mv ls s ((i', h', addW IntKind.i64 g' more) :: @List.nil (den SeenT)))) false (eqL (safeF h mv ls s ((i', h', g') :: @List.nil (den
    SeenT))) (safeF h mv ls s ((i', h', g') :: @List.nil (den SeenT))) (eqL (safeF h mv ls s ((i', h', g') :: @List.nil (den SeenT))) (safeF h mv ls s ((i', h', g')
    :: @List.nil (den SeenT))) (eqL (safeF h mv ls s ((i', h', g') :: @List.nil (den SeenT))) (safeF h mv ls s ((i', h', g') :: @List.nil (den SeenT))) (eqL (safeF h
    mv ls s ((i', h', g') :: @List.nil (den SeenT))) true (eqL (safeF h mv ls s ((i', h', g') :: (i2, h2, g2) :: @List.nil (den SeenT))) (safeF h mv ls s ((i', h', g')
    :: (i2, h2, g2) :: @List.nil (den SeenT))) (eqL (notB (safeF h mv ls s ((i', h', g') :: (i2, h2, g2) :: @List.nil (den SeenT)))) (notB (safeF h mv ls s ((i', h',
    g') :: (i2, h2, g2) :: @List.nil (den SeenT)))) (eqL (notB (safeF h mv ls s ((i', h', g') :: (i2, h2, g2) :: @List.nil (den SeenT)))) false (eqL (safeF h mv ls s
    ((i', h', g') :: @List.nil (den SeenT))) (safeF h mv ls s ((i', h', g') :: @List.nil (den SeenT))) (eqL (safeF h mv ls s ((i', h', g') :: @List.nil (den SeenT)))
    (safeF h mv ls s ((i', h', g') :: @List.nil (den SeenT))) (eqL (safeF h mv ls s ((i', h', g') :: @List.nil (den SeenT))) (safeF h mv ls s ((i', h', g') :: @List.nil
    (den SeenT))) (need (eqT false false) (eqL false false (AOut.ret (AV.bool false) = AOut.ret (AV.bool true)))))))))))))))))))))))))))))))))))))))))))))))))) (need
    (eqT false false) (eqL true true (eqL (safeF h mv ls s ((i', h', addW IntKind.i64 g' more) :: @List.nil (den SeenT))) (safeF h mv ls s ((i', h', addW IntKind.i64
    g' more) :: @List.nil (den SeenT))) (eqL (notB (safeF h mv ls s ((i', h', addW IntKind.i64 g' more) :: @List.nil (den SeenT)))) (notB (safeF h mv ls s ((i', h',
    addW IntKind.i64 g' more) :: @List.nil (den SeenT)))) (eqL (notB (safeF h mv ls s ((i', h', addW IntKind.i64 g' more) :: @List.nil (den SeenT)))) false (eqL (safeF
    h mv ls s ((i', h', g') :: @List.nil (den SeenT))) (safeF h mv ls s ((i', h', g') :: @List.nil (den SeenT))) (eqL (safeF h mv ls s ((i', h', g') :: @List.nil (den
    SeenT))) (safeF h mv ls s ((i', h', g') :: @List.nil (den SeenT))) (eqL (safeF h mv ls s ((i', h', g') :: @List.nil (den SeenT))) (safeF h mv ls s ((i', h', g')
    :: @List.nil (den SeenT))) (eqL (safeF h mv ls s ((i', h', g') :: @List.nil (den SeenT))) false (need (eqT false false) (eqL false false (eqL false false (eqL true
    true (eqL (safeF h mv ls s ((i', h', addW IntKind.i64 g' more) :: @List.nil (den SeenT))) (safeF h mv ls s ((i', h', addW IntKind.i64 g' more) :: @List.nil (den
    SeenT))) (eqL (notB (safeF h mv ls s ((i', h', addW IntKind.i64 g' more) :: @List.nil (den SeenT)))) (notB (safeF h mv ls s ((i', h', addW IntKind.i64 g' more) ::
    @List.nil (den SeenT)))) (eqL (notB (safeF h mv ls s ((i', h', addW IntKind.i64 g' more) :: @List.nil (den SeenT)))) false (eqL (safeF h mv ls s ((i', h', g') ::
    @List.nil (den SeenT))) (safeF h mv ls s ((i', h', g') :: @List.nil (den SeenT))) (eqL (safeF h mv ls s ((i', h', g') :: @List.nil (den SeenT))) (safeF h mv ls s
    ((i', h', g') :: @List.nil (den SeenT))) (eqL (safeF h mv ls s ((i', h', g') :: @List.nil (den SeenT))) (safeF h mv ls s ((i', h', g') :: @List.nil (den SeenT)))
    (eqL (safeF h mv ls s ((i', h', g') :: @List.nil (den SeenT))) false (need (eqT false false) (eqL false false (need (eqT false false) (eqL true true (eqL (safeF
    h mv ls s ((i', h', addW IntKind.i64 g' more) :: @List.nil (den SeenT))) (safeF h mv ls s ((i', h', addW IntKind.i64 g' more) :: @List.nil (den SeenT))) (eqL (notB
    (safeF h mv ls s ((i', h', addW IntKind.i64 g' more) :: @List.nil (den SeenT)))) (notB (safeF h mv ls s ((i', h', addW IntKind.i64 g' more) :: @List.nil (den SeenT))))
    (eqL (notB (safeF h mv ls s ((i', h', addW IntKind.i64 g' more) :: @List.nil (den SeenT)))) false (eqL (safeF h mv ls s ((i', h', g') :: @List.nil (den SeenT)))
    (safeF h mv ls s ((i', h', g') :: @List.nil (den SeenT))) (eqL (safeF h mv ls s ((i', h', g') :: @List.nil (den SeenT))) (safeF h mv ls s ((i', h', g') :: @List.nil
    (den SeenT))) (eqL (safeF h mv ls s ((i', h', g') :: @List.nil (den SeenT))) (safeF h mv ls s ((i', h', g') :: @List.nil (den SeenT))) (eqL (safeF h mv ls s ((i',
    h', g') :: @List.nil (den SeenT))) false (need (eqT false false) (eqL false false (need (eqT false false) (eqL false false (AOut.ret (AV.bool false) = AOut.ret (AV.bool
    true)))))))))))))))))))))))))))))))))))))))))))))))))))))))))))))))))))))))) (eqI i i (eqI h h (eqI g g (eqI mv mv (eqI ls ls (eqI s s (eqI i i (eqI h h (eqI g g
    (eqI mv mv (eqI ls ls (eqI s s (need (lenOK (lenI ((i', h', g') :: @List.nil (den SeenT)))) (need (rI h) (need (rI mv) (need (rI ls) (need (rI s) (need (rIs ((i',
    h', g') :: @List.nil (den SeenT))) (eqI i i (eqI h h (eqI g g (eqI mv mv (eqI ls ls (eqI s s (need (lenOK (lenI ((i', h', addW IntKind.i64 g' more) :: @List.nil
    (den SeenT)))) (need (rI h) (need (rI mv) (need (rI ls) (need (rI s) (need (rIs ((i', h', addW IntKind.i64 g' more) :: @List.nil (den SeenT))) (need (lenOK (lenI
    ((i', h', g') :: (i2, h2, g2) :: @List.nil (den SeenT)))) (need (rI h) (need (rI mv) (need (rI ls) (need (rI s) (need (rIs ((i', h', g') :: (i2, h2, g2) :: @List.nil
    (den SeenT))) (ifB (notB (safeF h mv ls s ((i', h', addW IntKind.i64 g' more) :: @List.nil (den SeenT)))) (need (eqT true true) (ifB (notB (safeF h mv ls s ((i',
    h', g') :: (i2, h2, g2) :: @List.nil (den SeenT)))) (need (eqT true true) (eqL true true (eqL (safeF h mv ls s ((i', h', addW IntKind.i64 g' more) :: @List.nil (den
    SeenT))) (safeF h mv ls s ((i', h', addW IntKind.i64 g' more) :: @List.nil (den SeenT))) (eqL (notB (safeF h mv ls s ((i', h', addW IntKind.i64 g' more) :: @List.nil
    (den SeenT)))) (notB (safeF h mv ls s ((i', h', addW IntKind.i64 g' more) :: @List.nil (den SeenT)))) (eqL (notB (safeF h mv ls s ((i', h', addW IntKind.i64 g' more)
    :: @List.nil (den SeenT)))) true (need (eqT true true) (eqL true true (eqL true true (eqL true true (eqL (safeF h mv ls s ((i', h', g') :: (i2, h2, g2) :: @List.nil
    (den SeenT))) (safeF h mv ls s ((i', h', g') :: (i2, h2, g2) :: @List.nil (den SeenT))) (eqL (notB (safeF h mv ls s ((i', h', g') :: (i2, h2, g2) :: @List.nil (den
    SeenT)))) (notB (safeF h mv ls s ((i', h', g') :: (i2, h2, g2) :: @List.nil (den SeenT)))) (eqL (notB (safeF h mv ls s ((i', h', g') :: (i2, h2, g2) :: @List.nil
    (den SeenT)))) true (need (eqT true true) (eqL true true (eqL true true (eqL true true (eqI i i (eqI h h (eqI g g (eqI i' i' (eqI h' h' (eqI (addW IntKind.i64 g'
    more) (addW IntKind.i64 g' more) (eqI s s (eqI i i (eqI h h (eqI g g (eqI i' i' (eqI h' h' (eqI g' g' (eqI s s (need (rI h) (need (rI h') (need (rI (addW IntKind.i64
    g' more)) (need (rI s) (eqL true true (eqL (safeF h mv ls s ((i', h', addW IntKind.i64 g' more) :: @List.nil (den SeenT))) (safeF h mv ls s ((i', h', addW IntKind.i64
    g' more) :: @List.nil (den SeenT))) (eqL (notB (safeF h mv ls s ((i', h', addW IntKind.i64 g' more) :: @List.nil (den SeenT)))) (notB (safeF h mv ls s ((i', h',
    addW IntKind.i64 g' more) :: @List.nil (den SeenT)))) (eqL (notB (safeF h mv ls s ((i', h', addW IntKind.i64 g' more) :: @List.nil (den SeenT)))) true (need (eqT
    true true) (eqL true true (eqL true true (eqL true true (eqL (safeF h mv ls s ((i', h', g') :: (i2, h2, g2) :: @List.nil (den SeenT))) (safeF h mv ls s ((i', h',
    g') :: (i2, h2, g2) :: @List.nil (den SeenT))) (eqL (notB (safeF h mv ls s ((i', h', g') :: (i2, h2, g2) :: @List.nil (den SeenT)))) (notB (safeF h mv ls s ((i',
    h', g') :: (i2, h2, g2) :: @List.nil (den SeenT)))) (eqL (notB (safeF h mv ls s ((i', h', g') :: (i2, h2, g2) :: @List.nil (den SeenT)))) true (need (eqT true true)
    (eqL true true (eqL true true (eqI i i (eqI h h (eqI g g (eqI i' i' (eqI h' h' (eqI g' g' (eqI s s (need (rI h) (need (rI h') (need (rI g') (need (rI s) (eqL true
    true (eqL (safeF h mv ls s ((i', h', addW IntKind.i64 g' more) :: @List.nil (den SeenT))) (safeF h mv ls s ((i', h', addW IntKind.i64 g' more) :: @List.nil (den
    SeenT))) (eqL (notB (safeF h mv ls s ((i', h', addW IntKind.i64 g' more) :: @List.nil (den SeenT)))) (notB (safeF h mv ls s ((i', h', addW IntKind.i64 g' more) ::
    @List.nil (den SeenT)))) (eqL (notB (safeF h mv ls s ((i', h', addW IntKind.i64 g' more) :: @List.nil (den SeenT)))) true (need (eqT true true) (eqL true true (eqL
    true true (eqL true true (eqL (safeF h mv ls s ((i', h', g') :: (i2, h2, g2) :: @List.nil (den SeenT))) (safeF h mv ls s ((i', h', g') :: (i2, h2, g2) :: @List.nil
    (den SeenT))) (eqL (notB (safeF h mv ls s ((i', h', g') :: (i2, h2, g2) :: @List.nil (den SeenT)))) (notB (safeF h mv ls s ((i', h', g') :: (i2, h2, g2) :: @List.nil
    (den SeenT)))) (eqL (notB (safeF h mv ls s ((i', h', g') :: (i2, h2, g2) :: @List.nil (den SeenT)))) true (need (eqT true true) (eqL true true (eqL true true (eqL
    (leB (gapF h h' (addW IntKind.i64 g' more) s) (gapF h h' g' s)) (leB (gapF h h' (addW IntKind.i64 g' more) s) (gapF h h' g' s)) (eqL (leB (gapF h h' (addW IntKind.i64
    g' more) s) (gapF h h' g' s)) (leB (gapF h h' (addW IntKind.i64 g' more) s) (gapF h h' g' s)) (AOut.ret (AV.bool (leB (gapF h h' (addW IntKind.i64 g' more) s) (gapF
    h h' g' s))) = AOut.ret (AV.bool true))))))))))))))))))))))))))))))))))))))))))))))))))))))))))))))))))))))))))))) (ifB (safeF h mv ls s ((i', h', g') :: @List.nil
    (den SeenT))) (eqL true true (eqL (safeF h mv ls s ((i', h', addW IntKind.i64 g' more) :: @List.nil (den SeenT))) (safeF h mv ls s ((i', h', addW IntKind.i64 g'
    more) :: @List.nil (den SeenT))) (eqL (notB (safeF h mv ls s ((i', h', addW IntKind.i64 g' more) :: @List.nil (den SeenT)))) (notB (safeF h mv ls s ((i', h', addW
    IntKind.i64 g' more) :: @List.nil (den SeenT)))) (eqL (notB (safeF h mv ls s ((i', h', addW IntKind.i64 g' more) :: @List.nil (den SeenT)))) true (need (eqT true
    true) (eqL true true (eqL true true (eqL true true (eqL (safeF h mv ls s ((i', h', g') :: (i2, h2, g2) :: @List.nil (den SeenT))) (safeF h mv ls s ((i', h', g')
    :: (i2, h2, g2) :: @List.nil (den SeenT))) (eqL (notB (safeF h mv ls s ((i', h', g') :: (i2, h2, g2) :: @List.nil (den SeenT)))) (notB (safeF h mv ls s ((i', h',
    g') :: (i2, h2, g2) :: @List.nil (den SeenT)))) (eqL (notB (safeF h mv ls s ((i', h', g') :: (i2, h2, g2) :: @List.nil (den SeenT)))) false (eqL (safeF h mv ls s
    ((i', h', g') :: @List.nil (den SeenT))) (safeF h mv ls s ((i', h', g') :: @List.nil (den SeenT))) (eqL (safeF h mv ls s ((i', h', g') :: @List.nil (den SeenT)))
    (safeF h mv ls s ((i', h', g') :: @List.nil (den SeenT))) (eqL (safeF h mv ls s ((i', h', g') :: @List.nil (den SeenT))) (safeF h mv ls s ((i', h', g') :: @List.nil
    (den SeenT))) (eqL (safeF h mv ls s ((i', h', g') :: @List.nil (den SeenT))) true (eqI i i (eqI h h (eqI g g (eqI i' i' (eqI h' h' (eqI (addW IntKind.i64 g' more)
    (addW IntKind.i64 g' more) (eqI s s (eqI i i (eqI h h (eqI g g (eqI i' i' (eqI h' h' (eqI g' g' (eqI s s (need (rI h) (need (rI h') (need (rI (addW IntKind.i64 g'
    more)) (need (rI s) (eqL true true (eqL (safeF h mv ls s ((i', h', addW IntKind.i64 g' more) :: @List.nil (den SeenT))) (safeF h mv ls s ((i', h', addW IntKind.i64
    g' more) :: @List.nil (den SeenT))) (eqL (notB (safeF h mv ls s ((i', h', addW IntKind.i64 g' more) :: @List.nil (den SeenT)))) (notB (safeF h mv ls s ((i', h',
    addW IntKind.i64 g' more) :: @List.nil (den SeenT)))) (eqL (notB (safeF h mv ls s ((i', h', addW IntKind.i64 g' more) :: @List.nil (den SeenT)))) true (need (eqT
    true true) (eqL true true (eqL true true (eqL true true (eqL (safeF h mv ls s ((i', h', g') :: (i2, h2, g2) :: @List.nil (den SeenT))) (safeF h mv ls s ((i', h',
    g') :: (i2, h2, g2) :: @List.nil (den SeenT))) (eqL (notB (safeF h mv ls s ((i', h', g') :: (i2, h2, g2) :: @List.nil (den SeenT)))) (notB (safeF h mv ls s ((i',
    h', g') :: (i2, h2, g2) :: @List.nil (den SeenT)))) (eqL (notB (safeF h mv ls s ((i', h', g') :: (i2, h2, g2) :: @List.nil (den SeenT)))) false (eqL (safeF h mv
    ls s ((i', h', g') :: @List.nil (den SeenT))) (safeF h mv ls s ((i', h', g') :: @List.nil (den SeenT))) (eqL (safeF h mv ls s ((i', h', g') :: @List.nil (den SeenT)))
    (safeF h mv ls s ((i', h', g') :: @List.nil (den SeenT))) (eqL (safeF h mv ls s ((i', h', g') :: @List.nil (den SeenT))) (safeF h mv ls s ((i', h', g') :: @List.nil
    (den SeenT))) (eqI i i (eqI h h (eqI g g (eqI i' i' (eqI h' h' (eqI g' g' (eqI s s (need (rI h) (need (rI h') (need (rI g') (need (rI s) (eqL true true (eqL (safeF
    h mv ls s ((i', h', addW IntKind.i64 g' more) :: @List.nil (den SeenT))) (safeF h mv ls s ((i', h', addW IntKind.i64 g' more) :: @List.nil (den SeenT))) (eqL (notB
    (safeF h mv ls s ((i', h', addW IntKind.i64 g' more) :: @List.nil (den SeenT)))) (notB (safeF h mv ls s ((i', h', addW IntKind.i64 g' more) :: @List.nil (den SeenT))))
    (eqL (notB (safeF h mv ls s ((i', h', addW IntKind.i64 g' more) :: @List.nil (den SeenT)))) true (need (eqT true true) (eqL true true (eqL true true (eqL true true
    (eqL (safeF h mv ls s ((i', h', g') :: (i2, h2, g2) :: @List.nil (den SeenT))) (safeF h mv ls s ((i', h', g') :: (i2, h2, g2) :: @List.nil (den SeenT))) (eqL (notB
    (safeF h mv ls s ((i', h', g') :: (i2, h2, g2) :: @List.nil (den SeenT)))) (notB (safeF h mv ls s ((i', h', g') :: (i2, h2, g2) :: @List.nil (den SeenT)))) (eqL
    (notB (safeF h mv ls s ((i', h', g') :: (i2, h2, g2) :: @List.nil (den SeenT)))) false (eqL (safeF h mv ls s ((i', h', g') :: @List.nil (den SeenT))) (safeF h mv
    ls s ((i', h', g') :: @List.nil (den SeenT))) (eqL (safeF h mv ls s ((i', h', g') :: @List.nil (den SeenT))) (safeF h mv ls s ((i', h', g') :: @List.nil (den SeenT)))
    (eqL (safeF h mv ls s ((i', h', g') :: @List.nil (den SeenT))) (safeF h mv ls s ((i', h', g') :: @List.nil (den SeenT))) (eqL (leB (gapF h h' (addW IntKind.i64 g'
    more) s) (gapF h h' g' s)) (leB (gapF h h' (addW IntKind.i64 g' more) s) (gapF h h' g' s)) (eqL (leB (gapF h h' (addW IntKind.i64 g' more) s) (gapF h h' g' s)) (leB
    (gapF h h' (addW IntKind.i64 g' more) s) (gapF h h' g' s)) (AOut.ret (AV.bool (leB (gapF h h' (addW IntKind.i64 g' more) s) (gapF h h' g' s))) = AOut.ret (AV.bool
    true)))))))))))))))))))))))))))))))))))))))))))))))))))))))))))))))))))))))))))) (eqL true true (eqL (safeF h mv ls s ((i', h', addW IntKind.i64 g' more) :: @List.nil
    (den SeenT))) (safeF h mv ls s ((i', h', addW IntKind.i64 g' more) :: @List.nil (den SeenT))) (eqL (notB (safeF h mv ls s ((i', h', addW IntKind.i64 g' more) ::
    @List.nil (den SeenT)))) (notB (safeF h mv ls s ((i', h', addW IntKind.i64 g' more) :: @List.nil (den SeenT)))) (eqL (notB (safeF h mv ls s ((i', h', addW IntKind.i64
    g' more) :: @List.nil (den SeenT)))) true (need (eqT true true) (eqL true true (eqL true true (eqL true true (eqL (safeF h mv ls s ((i', h', g') :: (i2, h2, g2)
    :: @List.nil (den SeenT))) (safeF h mv ls s ((i', h', g') :: (i2, h2, g2) :: @List.nil (den SeenT))) (eqL (notB (safeF h mv ls s ((i', h', g') :: (i2, h2, g2) ::
    @List.nil (den SeenT)))) (notB (safeF h mv ls s ((i', h', g') :: (i2, h2, g2) :: @List.nil (den SeenT)))) (eqL (notB (safeF h mv ls s ((i', h', g') :: (i2, h2, g2)
    :: @List.nil (den SeenT)))) false (eqL (safeF h mv ls s ((i', h', g') :: @List.nil (den SeenT))) (safeF h mv ls s ((i', h', g') :: @List.nil (den SeenT))) (eqL (safeF
    h mv ls s ((i', h', g') :: @List.nil (den SeenT))) (safeF h mv ls s ((i', h', g') :: @List.nil (den SeenT))) (eqL (safeF h mv ls s ((i', h', g') :: @List.nil (den
    SeenT))) (safeF h mv ls s ((i', h', g') :: @List.nil (den SeenT))) (eqL (safeF h mv ls s ((i', h', g') :: @List.nil (den SeenT))) false (eqL true true (eqL (safeF
    h mv ls s ((i', h', addW IntKind.i64 g' more) :: @List.nil (den SeenT))) (safeF h mv ls s ((i', h', addW IntKind.i64 g' more) :: @List.nil (den SeenT))) (eqL (notB
    (safeF h mv ls s ((i', h', addW IntKind.i64 g' more) :: @List.nil (den SeenT)))) (notB (safeF h mv ls s ((i', h', addW IntKind.i64 g' more) :: @List.nil (den SeenT))))
    (eqL (notB (safeF h mv ls s ((i', h', addW IntKind.i64 g' more) :: @List.nil (den SeenT)))) true (need (eqT true true) (eqL true true (eqL true true (eqL true true
    (eqL (safeF h mv ls s ((i', h', g') :: (i2, h2, g2) :: @List.nil (den SeenT))) (safeF h mv ls s ((i', h', g') :: (i2, h2, g2) :: @List.nil (den SeenT))) (eqL (notB
    (safeF h mv ls s ((i', h', g') :: (i2, h2, g2) :: @List.nil (den SeenT)))) (notB (safeF h mv ls s ((i', h', g') :: (i2, h2, g2) :: @List.nil (den SeenT)))) (eqL
    (notB (safeF h mv ls s ((i', h', g') :: (i2, h2, g2) :: @List.nil (den SeenT)))) false (eqL (safeF h mv ls s ((i', h', g') :: @List.nil (den SeenT))) (safeF h mv
    ls s ((i', h', g') :: @List.nil (den SeenT))) (eqL (safeF h mv ls s ((i', h', g') :: @List.nil (den SeenT))) (safeF h mv ls s ((i', h', g') :: @List.nil (den SeenT)))
    (eqL (safeF h mv ls s ((i', h', g') :: @List.nil (den SeenT))) (safeF h mv ls s ((i', h', g') :: @List.nil (den SeenT))) (need (eqT false false) (eqL true true (eqL
    (safeF h mv ls s ((i', h', addW IntKind.i64 g' more) :: @List.nil (den SeenT))) (safeF h mv ls s ((i', h', addW IntKind.i64 g' more) :: @List.nil (den SeenT))) (eqL
    (notB (safeF h mv ls s ((i', h', addW IntKind.i64 g' more) :: @List.nil (den SeenT)))) (notB (safeF h mv ls s ((i', h', addW IntKind.i64 g' more) :: @List.nil (den
    SeenT)))) (eqL (notB (safeF h mv ls s ((i', h', addW IntKind.i64 g' more) :: @List.nil (den SeenT)))) true (need (eqT true true) (eqL true true (eqL true true (eqL
    true true (eqL (safeF h mv ls s ((i', h', g') :: (i2, h2, g2) :: @List.nil (den SeenT))) (safeF h mv ls s ((i', h', g') :: (i2, h2, g2) :: @List.nil (den SeenT)))
    (eqL (notB (safeF h mv ls s ((i', h', g') :: (i2, h2, g2) :: @List.nil (den SeenT)))) (notB (safeF h mv ls s ((i', h', g') :: (i2, h2, g2) :: @List.nil (den SeenT))))
    (eqL (notB (safeF h mv ls s ((i', h', g') :: (i2, h2, g2) :: @List.nil (den SeenT)))) false (eqL (safeF h mv ls s ((i', h', g') :: @List.nil (den SeenT))) (safeF
    h mv ls s ((i', h', g') :: @List.nil (den SeenT))) (eqL (safeF h mv ls s ((i', h', g') :: @List.nil (den SeenT))) (safeF h mv ls s ((i', h', g') :: @List.nil (den
    SeenT))) (eqL (safeF h mv ls s ((i', h', g') :: @List.nil (den SeenT))) (safeF h mv ls s ((i', h', g') :: @List.nil (den SeenT))) (need (eqT false false) (eqL false
    false (AOut.ret (AV.bool false) = AOut.ret (AV.bool true))))))))))))))))))))))))))))))))))))))))))))))))))) (ifB (safeF h mv ls s ((i', h', g') :: @List.nil (den
    SeenT))) (ifB (notB (safeF h mv ls s ((i', h', g') :: (i2, h2, g2) :: @List.nil (den SeenT)))) (need (eqT true true) (eqL true true (eqL (safeF h mv ls s ((i', h',
    addW IntKind.i64 g' more) :: @List.nil (den SeenT))) (safeF h mv ls s ((i', h', addW IntKind.i64 g' more) :: @List.nil (den SeenT))) (eqL (notB (safeF h mv ls s
    ((i', h', addW IntKind.i64 g' more) :: @List.nil (den SeenT)))) (notB (safeF h mv ls s ((i', h', addW IntKind.i64 g' more) :: @List.nil (den SeenT)))) (eqL (notB
    (safeF h mv ls s ((i', h', addW IntKind.i64 g' more) :: @List.nil (den SeenT)))) false (eqL (safeF h mv ls s ((i', h', g') :: @List.nil (den SeenT))) (safeF h mv
    ls s ((i', h', g') :: @List.nil (den SeenT))) (eqL (safeF h mv ls s ((i', h', g') :: @List.nil (den SeenT))) (safeF h mv ls s ((i', h', g') :: @List.nil (den SeenT)))
    (eqL (safeF h mv ls s ((i', h', g') :: @List.nil (den SeenT))) (safeF h mv ls s ((i', h', g') :: @List.nil (den SeenT))) (eqL (safeF h mv ls s ((i', h', g') :: @List.nil
    (den SeenT))) true (eqL (safeF h mv ls s ((i', h', g') :: (i2, h2, g2) :: @List.nil (den SeenT))) (safeF h mv ls s ((i', h', g') :: (i2, h2, g2) :: @List.nil (den
    SeenT))) (eqL (notB (safeF h mv ls s ((i', h', g') :: (i2, h2, g2) :: @List.nil (den SeenT)))) (notB (safeF h mv ls s ((i', h', g') :: (i2, h2, g2) :: @List.nil
    (den SeenT)))) (eqL (notB (safeF h mv ls s ((i', h', g') :: (i2, h2, g2) :: @List.nil (den SeenT)))) true (need (eqT true true) (eqL true true (eqL true true (eqL
    true true (eqI i i (eqI h h (eqI g g (eqI i' i' (eqI h' h' (eqI (addW IntKind.i64 g' more) (addW IntKind.i64 g' more) (eqI s s (eqI i i (eqI h h (eqI g g (eqI i'
    i' (eqI h' h' (eqI g' g' (eqI s s (need (rI h) (need (rI h') (need (rI (addW IntKind.i64 g' more)) (need (rI s) (eqL true true (eqL (safeF h mv ls s ((i', h', addW
    IntKind.i64 g' more) :: @List.nil (den SeenT))) (safeF h mv ls s ((i', h', addW IntKind.i64 g' more) :: @List.nil (den SeenT))) (eqL (notB (safeF h mv ls s ((i',
    h', addW IntKind.i64 g' more) :: @List.nil (den SeenT)))) (notB (safeF h mv ls s ((i', h', addW IntKind.i64 g' more) :: @List.nil (den SeenT)))) (eqL (notB (safeF
    h mv ls s ((i', h', addW IntKind.i64 g' more) :: @List.nil (den SeenT)))) false (eqL (safeF h mv ls s ((i', h', g') :: @List.nil (den SeenT))) (safeF h mv ls s ((i',
    h', g') :: @List.nil (den SeenT))) (eqL (safeF h mv ls s ((i', h', g') :: @List.nil (den SeenT))) (safeF h mv ls s ((i', h', g') :: @List.nil (den SeenT))) (eqL
    (safeF h mv ls s ((i', h', g') :: @List.nil (den SeenT))) (safeF h mv ls s ((i', h', g') :: @List.nil (den SeenT))) (eqL (safeF h mv ls s ((i', h', g') :: @List.nil
    (den SeenT))) true (eqL (safeF h mv ls s ((i', h', g') :: (i2, h2, g2) :: @List.nil (den SeenT))) (safeF h mv ls s ((i', h', g') :: (i2, h2, g2) :: @List.nil (den
    SeenT))) (eqL (notB (safeF h mv ls s ((i', h', g') :: (i2, h2, g2) :: @List.nil (den SeenT)))) (notB (safeF h mv ls s ((i', h', g') :: (i2, h2, g2) :: @List.nil
    (den SeenT)))) (eqL (notB (safeF h mv ls s ((i', h', g') :: (i2, h2, g2) :: @List.nil (den SeenT)))) true (need (eqT true true) (eqL true true (eqL true true (eqI
    i i (eqI h h (eqI g g (eqI i' i' (eqI h' h' (eqI g' g' (eqI s s (need (rI h) (need (rI h') (need (rI g') (need (rI s) (eqL true true (eqL (safeF h mv ls s ((i',
    h', addW IntKind.i64 g' more) :: @List.nil (den SeenT))) (safeF h mv ls s ((i', h', addW IntKind.i64 g' more) :: @List.nil (den SeenT))) (eqL (notB (safeF h mv ls
    s ((i', h', addW IntKind.i64 g' more) :: @List.nil (den SeenT)))) (notB (safeF h mv ls s ((i', h', addW IntKind.i64 g' more) :: @List.nil (den SeenT)))) (eqL (notB
    (safeF h mv ls s ((i', h', addW IntKind.i64 g' more) :: @List.nil (den SeenT)))) false (eqL (safeF h mv ls s ((i', h', g') :: @List.nil (den SeenT))) (safeF h mv
    ls s ((i', h', g') :: @List.nil (den SeenT))) (eqL (safeF h mv ls s ((i', h', g') :: @List.nil (den SeenT))) (safeF h mv ls s ((i', h', g') :: @List.nil (den SeenT)))
    (eqL (safeF h mv ls s ((i', h', g') :: @List.nil (den SeenT))) (safeF h mv ls s ((i', h', g') :: @List.nil (den SeenT))) (eqL (safeF h mv ls s ((i', h', g') :: @List.nil
    (den SeenT))) true (eqL (safeF h mv ls s ((i', h', g') :: (i2, h2, g2) :: @List.nil (den SeenT))) (safeF h mv ls s ((i', h', g') :: (i2, h2, g2) :: @List.nil (den
    SeenT))) (eqL (notB (safeF h mv ls s ((i', h', g') :: (i2, h2, g2) :: @List.nil (den SeenT)))) (notB (safeF h mv ls s ((i', h', g') :: (i2, h2, g2) :: @List.nil
    (den SeenT)))) (eqL (notB (safeF h mv ls s ((i', h', g') :: (i2, h2, g2) :: @List.nil (den SeenT)))) true (need (eqT true true) (eqL true true (eqL true true (eqL
    (leB (gapF h h' (addW IntKind.i64 g' more) s) (gapF h h' g' s)) (leB (gapF h h' (addW IntKind.i64 g' more) s) (gapF h h' g' s)) (eqL (leB (gapF h h' (addW IntKind.i64
    g' more) s) (gapF h h' g' s)) (leB (gapF h h' (addW IntKind.i64 g' more) s) (gapF h h' g' s)) (AOut.ret (AV.bool (leB (gapF h h' (addW IntKind.i64 g' more) s) (gapF
    h h' g' s))) = AOut.ret (AV.bool true))))))))))))))))))))))))))))))))))))))))))))))))))))))))))))))))))))))))))))) (ifB (safeF h mv ls s ((i', h', g') :: @List.nil
    (den SeenT))) (eqL true true (eqL (safeF h mv ls s ((i', h', addW IntKind.i64 g' more) :: @List.nil (den SeenT))) (safeF h mv ls s ((i', h', addW IntKind.i64 g'
    more) :: @List.nil (den SeenT))) (eqL (notB (safeF h mv ls s ((i', h', addW IntKind.i64 g' more) :: @List.nil (den SeenT)))) (notB (safeF h mv ls s ((i', h', addW
    IntKind.i64 g' more) :: @List.nil (den SeenT)))) (eqL (notB (safeF h mv ls s ((i', h', addW IntKind.i64 g' more) :: @List.nil (den SeenT)))) false (eqL (safeF h
    mv ls s ((i', h', g') :: @List.nil (den SeenT))) (safeF h mv ls s ((i', h', g') :: @List.nil (den SeenT))) (eqL (safeF h mv ls s ((i', h', g') :: @List.nil (den
    SeenT))) (safeF h mv ls s ((i', h', g') :: @List.nil (den SeenT))) (eqL (safeF h mv ls s ((i', h', g') :: @List.nil (den SeenT))) (safeF h mv ls s ((i', h', g')
    :: @List.nil (den SeenT))) (eqL (safeF h mv ls s ((i', h', g') :: @List.nil (den SeenT))) true (eqL (safeF h mv ls s ((i', h', g') :: (i2, h2, g2) :: @List.nil (den
    SeenT))) (safeF h mv ls s ((i', h', g') :: (i2, h2, g2) :: @List.nil (den SeenT))) (eqL (notB (safeF h mv ls s ((i', h', g') :: (i2, h2, g2) :: @List.nil (den SeenT))))
    (notB (safeF h mv ls s ((i', h', g') :: (i2, h2, g2) :: @List.nil (den SeenT)))) (eqL (notB (safeF h mv ls s ((i', h', g') :: (i2, h2, g2) :: @List.nil (den SeenT))))
    false (eqL (safeF h mv ls s ((i', h', g') :: @List.nil (den SeenT))) (safeF h mv ls s ((i', h', g') :: @List.nil (den SeenT))) (eqL (safeF h mv ls s ((i', h', g')
    :: @List.nil (den SeenT))) (safeF h mv ls s ((i', h', g') :: @List.nil (den SeenT))) (eqL (safeF h mv ls s ((i', h', g') :: @List.nil (den SeenT))) (safeF h mv ls
    s ((i', h', g') :: @List.nil (den SeenT))) (eqL (safeF h mv ls s ((i', h', g') :: @List.nil (den SeenT))) true (eqI i i (eqI h h (eqI g g (eqI i' i' (eqI h' h' (eqI
    (addW IntKind.i64 g' more) (addW IntKind.i64 g' more) (eqI s s (eqI i i (eqI h h (eqI g g (eqI i' i' (eqI h' h' (eqI g' g' (eqI s s (need (rI h) (need (rI h') (need
    (rI (addW IntKind.i64 g' more)) (need (rI s) (eqL true true (eqL (safeF h mv ls s ((i', h', addW IntKind.i64 g' more) :: @List.nil (den SeenT))) (safeF h mv ls s
    ((i', h', addW IntKind.i64 g' more) :: @List.nil (den SeenT))) (eqL (notB (safeF h mv ls s ((i', h', addW IntKind.i64 g' more) :: @List.nil (den SeenT)))) (notB
    (safeF h mv ls s ((i', h', addW IntKind.i64 g' more) :: @List.nil (den SeenT)))) (eqL (notB (safeF h mv ls s ((i', h', addW IntKind.i64 g' more) :: @List.nil (den
    SeenT)))) false (eqL (safeF h mv ls s ((i', h', g') :: @List.nil (den SeenT))) (safeF h mv ls s ((i', h', g') :: @List.nil (den SeenT))) (eqL (safeF h mv ls s ((i',
    h', g') :: @List.nil (den SeenT))) (safeF h mv ls s ((i', h', g') :: @List.nil (den SeenT))) (eqL (safeF h mv ls s ((i', h', g') :: @List.nil (den SeenT))) (safeF
    h mv ls s ((i', h', g') :: @List.nil (den SeenT))) (eqL (safeF h mv ls s ((i', h', g') :: @List.nil (den SeenT))) true (eqL (safeF h mv ls s ((i', h', g') :: (i2,
    h2, g2) :: @List.nil (den SeenT))) (safeF h mv ls s ((i', h', g') :: (i2, h2, g2) :: @List.nil (den SeenT))) (eqL (notB (safeF h mv ls s ((i', h', g') :: (i2, h2,
    g2) :: @List.nil (den SeenT)))) (notB (safeF h mv ls s ((i', h', g') :: (i2, h2, g2) :: @List.nil (den SeenT)))) (eqL (notB (safeF h mv ls s ((i', h', g') :: (i2,
    h2, g2) :: @List.nil (den SeenT)))) false (eqL (safeF h mv ls s ((i', h', g') :: @List.nil (den SeenT))) (safeF h mv ls s ((i', h', g') :: @List.nil (den SeenT)))
    (eqL (safeF h mv ls s ((i', h', g') :: @List.nil (den SeenT))) (safeF h mv ls s ((i', h', g') :: @List.nil (den SeenT))) (eqL (safeF h mv ls s ((i', h', g') :: @List.nil
    (den SeenT))) (safeF h mv ls s ((i', h', g') :: @List.nil (den SeenT))) (eqI i i (eqI h h (eqI g g (eqI i' i' (eqI h' h' (eqI g' g' (eqI s s (need (rI h) (need (rI
    h') (need (rI g') (need (rI s) (eqL true true (eqL (safeF h mv ls s ((i', h', addW IntKind.i64 g' more) :: @List.nil (den SeenT))) (safeF h mv ls s ((i', h', addW
    IntKind.i64 g' more) :: @List.nil (den SeenT))) (eqL (notB (safeF h mv ls s ((i', h', addW IntKind.i64 g' more) :: @List.nil (den SeenT)))) (notB (safeF h mv ls
    s ((i', h', addW IntKind.i64 g' more) :: @List.nil (den SeenT)))) (eqL (notB (safeF h mv ls s ((i', h', addW IntKind.i64 g' more) :: @List.nil (den SeenT)))) false
    (eqL (safeF h mv ls s ((i', h', g') :: @List.nil (den SeenT))) (safeF h mv ls s ((i', h', g') :: @List.nil (den SeenT))) (eqL (safeF h mv ls s ((i', h', g') :: @List.nil
    (den SeenT))) (safeF h mv ls s ((i', h', g') :: @List.nil (den SeenT))) (eqL (safeF h mv ls s ((i', h', g') :: @List.nil (den SeenT))) (safeF h mv ls s ((i', h',
    g') :: @List.nil (den SeenT))) (eqL (safeF h mv ls s ((i', h', g') :: @List.nil (den SeenT))) true (eqL (safeF h mv ls s ((i', h', g') :: (i2, h2, g2) :: @List.nil
    (den SeenT))) (safeF h mv ls s ((i', h', g') :: (i2, h2, g2) :: @List.nil (den SeenT))) (eqL (notB (safeF h mv ls s ((i', h', g') :: (i2, h2, g2) :: @List.nil (den
    SeenT)))) (notB (safeF h mv ls s ((i', h', g') :: (i2, h2, g2) :: @List.nil (den SeenT)))) (eqL (notB (safeF h mv ls s ((i', h', g') :: (i2, h2, g2) :: @List.nil
    (den SeenT)))) false (eqL (safeF h mv ls s ((i', h', g') :: @List.nil (den SeenT))) (safeF h mv ls s ((i', h', g') :: @List.nil (den SeenT))) (eqL (safeF h mv ls
    s ((i', h', g') :: @List.nil (den SeenT))) (safeF h mv ls s ((i', h', g') :: @List.nil (den SeenT))) (eqL (safeF h mv ls s ((i', h', g') :: @List.nil (den SeenT)))
    (safeF h mv ls s ((i', h', g') :: @List.nil (den SeenT))) (eqL (leB (gapF h h' (addW IntKind.i64 g' more) s) (gapF h h' g' s)) (leB (gapF h h' (addW IntKind.i64
    g' more) s) (gapF h h' g' s)) (eqL (leB (gapF h h' (addW IntKind.i64 g' more) s) (gapF h h' g' s)) (leB (gapF h h' (addW IntKind.i64 g' more) s) (gapF h h' g' s))
    (AOut.ret (AV.bool (leB (gapF h h' (addW IntKind.i64 g' more) s) (gapF h h' g' s))) = AOut.ret (AV.bool true))))))))))))))))))))))))))))))))))))))))))))))))))))))))))))))))))))))))))))
    (eqL true true (eqL (safeF h mv ls s ((i', h', addW IntKind.i64 g' more) :: @List.nil (den SeenT))) (safeF h mv ls s ((i', h', addW IntKind.i64 g' more) :: @List.nil
    (den SeenT))) (eqL (notB (safeF h mv ls s ((i', h', addW IntKind.i64 g' more) :: @List.nil (den SeenT)))) (notB (safeF h mv ls s ((i', h', addW IntKind.i64 g' more)
    :: @List.nil (den SeenT)))) (eqL (notB (safeF h mv ls s ((i', h', addW IntKind.i64 g' more) :: @List.nil (den SeenT)))) false (eqL (safeF h mv ls s ((i', h', g')
    :: @List.nil (den SeenT))) (safeF h mv ls s ((i', h', g') :: @List.nil (den SeenT))) (eqL (safeF h mv ls s ((i', h', g') :: @List.nil (den SeenT))) (safeF h mv ls
    s ((i', h', g') :: @List.nil (den SeenT))) (eqL (safeF h mv ls s ((i', h', g') :: @List.nil (den SeenT))) (safeF h mv ls s ((i', h', g') :: @List.nil (den SeenT)))
    (eqL (safeF h mv ls s ((i', h', g') :: @List.nil (den SeenT))) true (eqL (safeF h mv ls s ((i', h', g') :: (i2, h2, g2) :: @List.nil (den SeenT))) (safeF h mv ls
    s ((i', h', g') :: (i2, h2, g2) :: @List.nil (den SeenT))) (eqL (notB (safeF h mv ls s ((i', h', g') :: (i2, h2, g2) :: @List.nil (den SeenT)))) (notB (safeF h mv
    ls s ((i', h', g') :: (i2, h2, g2) :: @List.nil (den SeenT)))) (eqL (notB (safeF h mv ls s ((i', h', g') :: (i2, h2, g2) :: @List.nil (den SeenT)))) false (eqL (safeF
    h mv ls s ((i', h', g') :: @List.nil (den SeenT))) (safeF h mv ls s ((i', h', g') :: @List.nil (den SeenT))) (eqL (safeF h mv ls s ((i', h', g') :: @List.nil (den
    SeenT))) (safeF h mv ls s ((i', h', g') :: @List.nil (den SeenT))) (eqL (safeF h mv ls s ((i', h', g') :: @List.nil (den SeenT))) (safeF h mv ls s ((i', h', g')
    :: @List.nil (den SeenT))) (eqL (safeF h mv ls s ((i', h', g') :: @List.nil (den SeenT))) false (eqL true true (eqL (safeF h mv ls s ((i', h', addW IntKind.i64 g'
    more) :: @List.nil (den SeenT))) (safeF h mv ls s ((i', h', addW IntKind.i64 g' more) :: @List.nil (den SeenT))) (eqL (notB (safeF h mv ls s ((i', h', addW IntKind.i64
    g' more) :: @List.nil (den SeenT)))) (notB (safeF h mv ls s ((i', h', addW IntKind.i64 g' more) :: @List.nil (den SeenT)))) (eqL (notB (safeF h mv ls s ((i', h',
    addW IntKind.i64 g' more) :: @List.nil (den SeenT)))) false (eqL (safeF h mv ls s ((i', h', g') :: @List.nil (den SeenT))) (safeF h mv ls s ((i', h', g') :: @List.nil
    (den SeenT))) (eqL (safeF h mv ls s ((i', h', g') :: @List.nil (den SeenT))) (safeF h mv ls s ((i', h', g') :: @List.nil (den SeenT))) (eqL (safeF h mv ls s ((i',
    h', g') :: @List.nil (den SeenT))) (safeF h mv ls s ((i', h', g') :: @List.nil (den SeenT))) (eqL (safeF h mv ls s ((i', h', g') :: @List.nil (den SeenT))) true
    (eqL (safeF h mv ls s ((i', h', g') :: (i2, h2, g2) :: @List.nil (den SeenT))) (safeF h mv ls s ((i', h', g') :: (i2, h2, g2) :: @List.nil (den SeenT))) (eqL (notB
    (safeF h mv ls s ((i', h', g') :: (i2, h2, g2) :: @List.nil (den SeenT)))) (notB (safeF h mv ls s ((i', h', g') :: (i2, h2, g2) :: @List.nil (den SeenT)))) (eqL
    (notB (safeF h mv ls s ((i', h', g') :: (i2, h2, g2) :: @List.nil (den SeenT)))) false (eqL (safeF h mv ls s ((i', h', g') :: @List.nil (den SeenT))) (safeF h mv
    ls s ((i', h', g') :: @List.nil (den SeenT))) (eqL (safeF h mv ls s ((i', h', g') :: @List.nil (den SeenT))) (safeF h mv ls s ((i', h', g') :: @List.nil (den SeenT)))
    (eqL (safeF h mv ls s ((i', h', g') :: @List.nil (den SeenT))) (safeF h mv ls s ((i', h', g') :: @List.nil (den SeenT))) (need (eqT false false) (eqL true true (eqL
    (safeF h mv ls s ((i', h', addW IntKind.i64 g' more) :: @List.nil (den SeenT))) (safeF h mv ls s ((i', h', addW IntKind.i64 g' more) :: @List.nil (den SeenT))) (eqL
    (notB (safeF h mv ls s ((i', h', addW IntKind.i64 g' more) :: @List.nil (den SeenT)))) (notB (safeF h mv ls s ((i', h', addW IntKind.i64 g' more) :: @List.nil (den
    SeenT)))) (eqL (notB (safeF h mv ls s ((i', h', addW IntKind.i64 g' more) :: @List.nil (den SeenT)))) false (eqL (safeF h mv ls s ((i', h', g') :: @List.nil (den
    SeenT))) (safeF h mv ls s ((i', h', g') :: @List.nil (den SeenT))) (eqL (safeF h mv ls s ((i', h', g') :: @List.nil (den SeenT))) (safeF h mv ls s ((i', h', g')
    :: @List.nil (den SeenT))) (eqL (safeF h mv ls s ((i', h', g') :: @List.nil (den SeenT))) (safeF h mv ls s ((i', h', g') :: @List.nil (den SeenT))) (eqL (safeF h
    mv ls s ((i', h', g') :: @List.nil (den SeenT))) true (eqL (safeF h mv ls s ((i', h', g') :: (i2, h2, g2) :: @List.nil (den SeenT))) (safeF h mv ls s ((i', h', g')
    :: (i2, h2, g2) :: @List.nil (den SeenT))) (eqL (notB (safeF h mv ls s ((i', h', g') :: (i2, h2, g2) :: @List.nil (den SeenT)))) (notB (safeF h mv ls s ((i', h',
    g') :: (i2, h2, g2) :: @List.nil (den SeenT)))) (eqL (notB (safeF h mv ls s ((i', h', g') :: (i2, h2, g2) :: @List.nil (den SeenT)))) false (eqL (safeF h mv ls s
    ((i', h', g') :: @List.nil (den SeenT))) (safeF h mv ls s ((i', h', g') :: @List.nil (den SeenT))) (eqL (safeF h mv ls s ((i', h', g') :: @List.nil (den SeenT)))
    (safeF h mv ls s ((i', h', g') :: @List.nil (den SeenT))) (eqL (safeF h mv ls s ((i', h', g') :: @List.nil (den SeenT))) (safeF h mv ls s ((i', h', g') :: @List.nil
    (den SeenT))) (need (eqT false false) (eqL false false (AOut.ret (AV.bool false) = AOut.ret (AV.bool true)))))))))))))))))))))))))))))))))))))))))))))))))) (need
    (eqT false false) (eqL true true (eqL (safeF h mv ls s ((i', h', addW IntKind.i64 g' more) :: @List.nil (den SeenT))) (safeF h mv ls s ((i', h', addW IntKind.i64
    g' more) :: @List.nil (den SeenT))) (eqL (notB (safeF h mv ls s ((i', h', addW IntKind.i64 g' more) :: @List.nil (den SeenT)))) (notB (safeF h mv ls s ((i', h',
    addW IntKind.i64 g' more) :: @List.nil (den SeenT)))) (eqL (notB (safeF h mv ls s ((i', h', addW IntKind.i64 g' more) :: @List.nil (den SeenT)))) false (eqL (safeF
    h mv ls s ((i', h', g') :: @List.nil (den SeenT))) (safeF h mv ls s ((i', h', g') :: @List.nil (den SeenT))) (eqL (safeF h mv ls s ((i', h', g') :: @List.nil (den
    SeenT))) (safeF h mv ls s ((i', h', g') :: @List.nil (den SeenT))) (eqL (safeF h mv ls s ((i', h', g') :: @List.nil (den SeenT))) (safeF h mv ls s ((i', h', g')
    :: @List.nil (den SeenT))) (eqL (safeF h mv ls s ((i', h', g') :: @List.nil (den SeenT))) false (need (eqT false false) (eqL false false (eqL false false (eqL true
    true (eqL (safeF h mv ls s ((i', h', addW IntKind.i64 g' more) :: @List.nil (den SeenT))) (safeF h mv ls s ((i', h', addW IntKind.i64 g' more) :: @List.nil (den
    SeenT))) (eqL (notB (safeF h mv ls s ((i', h', addW IntKind.i64 g' more) :: @List.nil (den SeenT)))) (notB (safeF h mv ls s ((i', h', addW IntKind.i64 g' more) ::
    @List.nil (den SeenT)))) (eqL (notB (safeF h mv ls s ((i', h', addW IntKind.i64 g' more) :: @List.nil (den SeenT)))) false (eqL (safeF h mv ls s ((i', h', g') ::
    @List.nil (den SeenT))) (safeF h mv ls s ((i', h', g') :: @List.nil (den SeenT))) (eqL (safeF h mv ls s ((i', h', g') :: @List.nil (den SeenT))) (safeF h mv ls s
    ((i', h', g') :: @List.nil (den SeenT))) (eqL (safeF h mv ls s ((i', h', g') :: @List.nil (den SeenT))) (safeF h mv ls s ((i', h', g') :: @List.nil (den SeenT)))
    (eqL (safeF h mv ls s ((i', h', g') :: @List.nil (den SeenT))) false (need (eqT false false) (eqL false false (need (eqT false false) (eqL true true (eqL (safeF
    h mv ls s ((i', h', addW IntKind.i64 g' more) :: @List.nil (den SeenT))) (safeF h mv ls s ((i', h', addW IntKind.i64 g' more) :: @List.nil (den SeenT))) (eqL (notB
    (safeF h mv ls s ((i', h', addW IntKind.i64 g' more) :: @List.nil (den SeenT)))) (notB (safeF h mv ls s ((i', h', addW IntKind.i64 g' more) :: @List.nil (den SeenT))))
    (eqL (notB (safeF h mv ls s ((i', h', addW IntKind.i64 g' more) :: @List.nil (den SeenT)))) false (eqL (safeF h mv ls s ((i', h', g') :: @List.nil (den SeenT)))
    (safeF h mv ls s ((i', h', g') :: @List.nil (den SeenT))) (eqL (safeF h mv ls s ((i', h', g') :: @List.nil (den SeenT))) (safeF h mv ls s ((i', h', g') :: @List.nil
    (den SeenT))) (eqL (safeF h mv ls s ((i', h', g') :: @List.nil (den SeenT))) (safeF h mv ls s ((i', h', g') :: @List.nil (den SeenT))) (eqL (safeF h mv ls s ((i',
    h', g') :: @List.nil (den SeenT))) false (need (eqT false false) (eqL false false (need (eqT false false) (eqL false false (AOut.ret (AV.bool false) = AOut.ret (AV.bool
    true))))))))))))))))))))))))))))))))))))))))))))))))))))))))))))))))))))))))))))))))))))))))))) (eqI i i (eqI h h (eqI g g (eqI mv mv (eqI ls ls (eqI s s (eqI i'
    i' (eqI h' h' (eqI g' g' (eqI i i (eqI h h (eqI g g (eqI mv mv (eqI ls ls (eqI s s (eqI i i (eqI h h (eqI g g (eqI mv mv (eqI ls ls (eqI s s (eqI i i (eqI h h (eqI
    g g (eqI mv mv (eqI ls ls (eqI s s (need (lenOK (lenI ((i', h', g') :: @List.nil (den SeenT)))) (need (rI h) (need (rI mv) (need (rI ls) (need (rI s) (need (rIs
    ((i', h', g') :: @List.nil (den SeenT))) (eqI i i (eqI h h (eqI g g (eqI mv mv (eqI ls ls (eqI s s (need (lenOK (lenI ((i', h', addW IntKind.i64 g' more) :: @List.nil
    (den SeenT)))) (need (rI h) (need (rI mv) (need (rI ls) (need (rI s) (need (rIs ((i', h', addW IntKind.i64 g' more) :: @List.nil (den SeenT))) (need (lenOK (lenI
    ((i', h', g') :: (i2, h2, g2) :: @List.nil (den SeenT)))) (need (rI h) (need (rI mv) (need (rI ls) (need (rI s) (need (rIs ((i', h', g') :: (i2, h2, g2) :: @List.nil
    (den SeenT))) (ifB (notB (safeF h mv ls s ((i', h', addW IntKind.i64 g' more) :: @List.nil (den SeenT)))) (need (eqT true true) (ifB (notB (safeF h mv ls s ((i',
    h', g') :: (i2, h2, g2) :: @List.nil (den SeenT)))) (need (eqT true true) (eqL true true (eqL (safeF h mv ls s ((i', h', addW IntKind.i64 g' more) :: @List.nil (den
    SeenT))) (safeF h mv ls s ((i', h', addW IntKind.i64 g' more) :: @List.nil (den SeenT))) (eqL (notB (safeF h mv ls s ((i', h', addW IntKind.i64 g' more) :: @List.nil
    (den SeenT)))) (notB (safeF h mv ls s ((i', h', addW IntKind.i64 g' more) :: @List.nil (den SeenT)))) (eqL (notB (safeF h mv ls s ((i', h', addW IntKind.i64 g' more)
    :: @List.nil (den SeenT)))) true (need (eqT true true) (eqL true true (eqL true true (eqL true true (eqL (safeF h mv ls s ((i', h', g') :: (i2, h2, g2) :: @List.nil
    (den SeenT))) (safeF h mv ls s ((i', h', g') :: (i2, h2, g2) :: @List.nil (den SeenT))) (eqL (notB (safeF h mv ls s ((i', h', g') :: (i2, h2, g2) :: @List.nil (den
    SeenT)))) (notB (safeF h mv ls s ((i', h', g') :: (i2, h2, g2) :: @List.nil (den SeenT)))) (eqL (notB (safeF h mv ls s ((i', h', g') :: (i2, h2, g2) :: @List.nil
    (den SeenT)))) true (need (eqT true true) (eqL true true (eqL true true (eqL true true (eqI i i (eqI h h (eqI g g (eqI i' i' (eqI h' h' (eqI (addW IntKind.i64 g'
    more) (addW IntKind.i64 g' more) (eqI s s (eqI i i (eqI h h (eqI g g (eqI i' i' (eqI h' h' (eqI g' g' (eqI s s (need (rI h) (need (rI h') (need (rI (addW IntKind.i64
    g' more)) (need (rI s) (eqL true true (eqL (safeF h mv ls s ((i', h', addW IntKind.i64 g' more) :: @List.nil (den SeenT))) (safeF h mv ls s ((i', h', addW IntKind.i64
    g' more) :: @List.nil (den SeenT))) (eqL (notB (safeF h mv ls s ((i', h', addW IntKind.i64 g' more) :: @List.nil (den SeenT)))) (notB (safeF h mv ls s ((i', h',
    addW IntKind.i64 g' more) :: @List.nil (den SeenT)))) (eqL (notB (safeF h mv ls s ((i', h', addW IntKind.i64 g' more) :: @List.nil (den SeenT)))) true (need (eqT
    true true) (eqL true true (eqL true true (eqL true true (eqL (safeF h mv ls s ((i', h', g') :: (i2, h2, g2) :: @List.nil (den SeenT))) (safeF h mv ls s ((i', h',
    g') :: (i2, h2, g2) :: @List.nil (den SeenT))) (eqL (notB (safeF h mv ls s ((i', h', g') :: (i2, h2, g2) :: @List.nil (den SeenT)))) (notB (safeF h mv ls s ((i',
    h', g') :: (i2, h2, g2) :: @List.nil (den SeenT)))) (eqL (notB (safeF h mv ls s ((i', h', g') :: (i2, h2, g2) :: @List.nil (den SeenT)))) true (need (eqT true true)
    (eqL true true (eqL true true (eqI i i (eqI h h (eqI g g (eqI i' i' (eqI h' h' (eqI g' g' (eqI s s (need (rI h) (need (rI h') (need (rI g') (need (rI s) (eqL true
    true (eqL (safeF h mv ls s ((i', h', addW IntKind.i64 g' more) :: @List.nil (den SeenT))) (safeF h mv ls s ((i', h', addW IntKind.i64 g' more) :: @List.nil (den
    SeenT))) (eqL (notB (safeF h mv ls s ((i', h', addW IntKind.i64 g' more) :: @List.nil (den SeenT)))) (notB (safeF h mv ls s ((i', h', addW IntKind.i64 g' more) ::
    @List.nil (den SeenT)))) (eqL (notB (safeF h mv ls s ((i', h', addW IntKind.i64 g' more) :: @List.nil (den SeenT)))) true (need (eqT true true) (eqL true true (eqL
    true true (eqL true true (eqL (safeF h mv ls s ((i', h', g') :: (i2, h2, g2) :: @List.nil (den SeenT))) (safeF h mv ls s ((i', h', g') :: (i2, h2, g2) :: @List.nil
    (den SeenT))) (eqL (notB (safeF h mv ls s ((i', h', g') :: (i2, h2, g2) :: @List.nil (den SeenT)))) (notB (safeF h mv ls s ((i', h', g') :: (i2, h2, g2) :: @List.nil
    (den SeenT)))) (eqL (notB (safeF h mv ls s ((i', h', g') :: (i2, h2, g2) :: @List.nil (den SeenT)))) true (need (eqT true true) (eqL true true (eqL true true (eqL
    (leB (gapF h h' (addW IntKind.i64 g' more) s) (gapF h h' g' s)) (leB (gapF h h' (addW IntKind.i64 g' more) s) (gapF h h' g' s)) (eqL (leB (gapF h h' (addW IntKind.i64
    g' more) s) (gapF h h' g' s)) (leB (gapF h h' (addW IntKind.i64 g' more) s) (gapF h h' g' s)) (AOut.ret (AV.bool (leB (gapF h h' (addW IntKind.i64 g' more) s) (gapF
    h h' g' s))) = AOut.ret (AV.bool true))))))))))))))))))))))))))))))))))))))))))))))))))))))))))))))))))))))))))))) (ifB (safeF h mv ls s ((i', h', g') :: @List.nil
    (den SeenT))) (eqL true true (eqL (safeF h mv ls s ((i', h', addW IntKind.i64 g' more) :: @List.nil (den SeenT))) (safeF h mv ls s ((i', h', addW IntKind.i64 g'
    more) :: @List.nil (den SeenT))) (eqL (notB (safeF h mv ls s ((i', h', addW IntKind.i64 g' more) :: @List.nil (den SeenT)))) (notB (safeF h mv ls s ((i', h', addW
    IntKind.i64 g' more) :: @List.nil (den SeenT)))) (eqL (notB (safeF h mv ls s ((i', h', addW IntKind.i64 g' more) :: @List.nil (den SeenT)))) true (need (eqT true
    true) (eqL true true (eqL true true (eqL true true (eqL (safeF h mv ls s ((i', h', g') :: (i2, h2, g2) :: @List.nil (den SeenT))) (safeF h mv ls s ((i', h', g')
    :: (i2, h2, g2) :: @List.nil (den SeenT))) (eqL (notB (safeF h mv ls s ((i', h', g') :: (i2, h2, g2) :: @List.nil (den SeenT)))) (notB (safeF h mv ls s ((i', h',
    g') :: (i2, h2, g2) :: @List.nil (den SeenT)))) (eqL (notB (safeF h mv ls s ((i', h', g') :: (i2, h2, g2) :: @List.nil (den SeenT)))) false (eqL (safeF h mv ls s
    ((i', h', g') :: @List.nil (den SeenT))) (safeF h mv ls s ((i', h', g') :: @List.nil (den SeenT))) (eqL (safeF h mv ls s ((i', h', g') :: @List.nil (den SeenT)))
    (safeF h mv ls s ((i', h', g') :: @List.nil (den SeenT))) (eqL (safeF h mv ls s ((i', h', g') :: @List.nil (den SeenT))) (safeF h mv ls s ((i', h', g') :: @List.nil
    (den SeenT))) (eqL (safeF h mv ls s ((i', h', g') :: @List.nil (den SeenT))) true (eqI i i (eqI h h (eqI g g (eqI i' i' (eqI h' h' (eqI (addW IntKind.i64 g' more)
    (addW IntKind.i64 g' more) (eqI s s (eqI i i (eqI h h (eqI g g (eqI i' i' (eqI h' h' (eqI g' g' (eqI s s (need (rI h) (need (rI h') (need (rI (addW IntKind.i64 g'
    more)) (need (rI s) (eqL true true (eqL (safeF h mv ls s ((i', h', addW IntKind.i64 g' more) :: @List.nil (den SeenT))) (safeF h mv ls s ((i', h', addW IntKind.i64
    g' more) :: @List.nil (den SeenT))) (eqL (notB (safeF h mv ls s ((i', h', addW IntKind.i64 g' more) :: @List.nil (den SeenT)))) (notB (safeF h mv ls s ((i', h',
    addW IntKind.i64 g' more) :: @List.nil (den SeenT)))) (eqL (notB (safeF h mv ls s ((i', h', addW IntKind.i64 g' more) :: @List.nil (den SeenT)))) true (need (eqT
    true true) (eqL true true (eqL true true (eqL true true (eqL (safeF h mv ls s ((i', h', g') :: (i2, h2, g2) :: @List.nil (den SeenT))) (safeF h mv ls s ((i', h',
    g') :: (i2, h2, g2) :: @List.nil (den SeenT))) (eqL (notB (safeF h mv ls s ((i', h', g') :: (i2, h2, g2) :: @List.nil (den SeenT)))) (notB (safeF h mv ls s ((i',
    h', g') :: (i2, h2, g2) :: @List.nil (den SeenT)))) (eqL (notB (safeF h mv ls s ((i', h', g') :: (i2, h2, g2) :: @List.nil (den SeenT)))) false (eqL (safeF h mv
    ls s ((i', h', g') :: @List.nil (den SeenT))) (safeF h mv ls s ((i', h', g') :: @List.nil (den SeenT))) (eqL (safeF h mv ls s ((i', h', g') :: @List.nil (den SeenT)))
    (safeF h mv ls s ((i', h', g') :: @List.nil (den SeenT))) (eqL (safeF h mv ls s ((i', h', g') :: @List.nil (den SeenT))) (safeF h mv ls s ((i', h', g') :: @List.nil
    (den SeenT))) (eqI i i (eqI h h (eqI g g (eqI i' i' (eqI h' h' (eqI g' g' (eqI s s (need (rI h) (need (rI h') (need (rI g') (need (rI s) (eqL true true (eqL (safeF
    h mv ls s ((i', h', addW IntKind.i64 g' more) :: @List.nil (den SeenT))) (safeF h mv ls s ((i', h', addW IntKind.i64 g' more) :: @List.nil (den SeenT))) (eqL (notB
    (safeF h mv ls s ((i', h', addW IntKind.i64 g' more) :: @List.nil (den SeenT)))) (notB (safeF h mv ls s ((i', h', addW IntKind.i64 g' more) :: @List.nil (den SeenT))))
    (eqL (notB (safeF h mv ls s ((i', h', addW IntKind.i64 g' more) :: @List.nil (den SeenT)))) true (need (eqT true true) (eqL true true (eqL true true (eqL true true
    (eqL (safeF h mv ls s ((i', h', g') :: (i2, h2, g2) :: @List.nil (den SeenT))) (safeF h mv ls s ((i', h', g') :: (i2, h2, g2) :: @List.nil (den SeenT))) (eqL (notB
    (safeF h mv ls s ((i', h', g') :: (i2, h2, g2) :: @List.nil (den SeenT)))) (notB (safeF h mv ls s ((i', h', g') :: (i2, h2, g2) :: @List.nil (den SeenT)))) (eqL
    (notB (safeF h mv ls s ((i', h', g') :: (i2, h2, g2) :: @List.nil (den SeenT)))) false (eqL (safeF h mv ls s ((i', h', g') :: @List.nil (den SeenT))) (safeF h mv
    ls s ((i', h', g') :: @List.nil (den SeenT))) (eqL (safeF h mv ls s ((i', h', g') :: @List.nil (den SeenT))) (safeF h mv ls s ((i', h', g') :: @List.nil (den SeenT)))
    (eqL (safeF h mv ls s ((i', h', g') :: @List.nil (den SeenT))) (safeF h mv ls s ((i', h', g') :: @List.nil (den SeenT))) (eqL (leB (gapF h h' (addW IntKind.i64 g'
    more) s) (gapF h h' g' s)) (leB (gapF h h' (addW IntKind.i64 g' more) s) (gapF h h' g' s)) (eqL (leB (gapF h h' (addW IntKind.i64 g' more) s) (gapF h h' g' s)) (leB
    (gapF h h' (addW IntKind.i64 g' more) s) (gapF h h' g' s)) (AOut.ret (AV.bool (leB (gapF h h' (addW IntKind.i64 g' more) s) (gapF h h' g' s))) = AOut.ret (AV.bool
    true)))))))))))))))))))))))))))))))))))))))))))))))))))))))))))))))))))))))))))) (eqL true true (eqL (safeF h mv ls s ((i', h', addW IntKind.i64 g' more) :: @List.nil
    (den SeenT))) (safeF h mv ls s ((i', h', addW IntKind.i64 g' more) :: @List.nil (den SeenT))) (eqL (notB (safeF h mv ls s ((i', h', addW IntKind.i64 g' more) ::
    @List.nil (den SeenT)))) (notB (safeF h mv ls s ((i', h', addW IntKind.i64 g' more) :: @List.nil (den SeenT)))) (eqL (notB (safeF h mv ls s ((i', h', addW IntKind.i64
    g' more) :: @List.nil (den SeenT)))) true (need (eqT true true) (eqL true true (eqL true true (eqL true true (eqL (safeF h mv ls s ((i', h', g') :: (i2, h2, g2)
    :: @List.nil (den SeenT))) (safeF h mv ls s ((i', h', g') :: (i2, h2, g2) :: @List.nil (den SeenT))) (eqL (notB (safeF h mv ls s ((i', h', g') :: (i2, h2, g2) ::
    @List.nil (den SeenT)))) (notB (safeF h mv ls s ((i', h', g') :: (i2, h2, g2) :: @List.nil (den SeenT)))) (eqL (notB (safeF h mv ls s ((i', h', g') :: (i2, h2, g2)
    :: @List.nil (den SeenT)))) false (eqL (safeF h mv ls s ((i', h', g') :: @List.nil (den SeenT))) (safeF h mv ls s ((i', h', g') :: @List.nil (den SeenT))) (eqL (safeF
    h mv ls s ((i', h', g') :: @List.nil (den SeenT))) (safeF h mv ls s ((i', h', g') :: @List.nil (den SeenT))) (eqL (safeF h mv ls s ((i', h', g') :: @List.nil (den
    SeenT))) (safeF h mv ls s ((i', h', g') :: @List.nil (den SeenT))) (eqL (safeF h mv ls s ((i', h', g') :: @List.nil (den SeenT))) false (eqL true true (eqL (safeF
    h mv ls s ((i', h', addW IntKind.i64 g' more) :: @List.nil (den SeenT))) (safeF h mv ls s ((i', h', addW IntKind.i64 g' more) :: @List.nil (den SeenT))) (eqL (notB
    (safeF h mv ls s ((i', h', addW IntKind.i64 g' more) :: @List.nil (den SeenT)))) (notB (safeF h mv ls s ((i', h', addW IntKind.i64 g' more) :: @List.nil (den SeenT))))
    (eqL (notB (safeF h mv ls s ((i', h', addW IntKind.i64 g' more) :: @List.nil (den SeenT)))) true (need (eqT true true) (eqL true true (eqL true true (eqL true true
    (eqL (safeF h mv ls s ((i', h', g') :: (i2, h2, g2) :: @List.nil (den SeenT))) (safeF h mv ls s ((i', h', g') :: (i2, h2, g2) :: @List.nil (den SeenT))) (eqL (notB
    (safeF h mv ls s ((i', h', g') :: (i2, h2, g2) :: @List.nil (den SeenT)))) (notB (safeF h mv ls s ((i', h', g') :: (i2, h2, g2) :: @List.nil (den SeenT)))) (eqL
    (notB (safeF h mv ls s ((i', h', g') :: (i2, h2, g2) :: @List.nil (den SeenT)))) false (eqL (safeF h mv ls s ((i', h', g') :: @List.nil (den SeenT))) (safeF h mv
    ls s ((i', h', g') :: @List.nil (den SeenT))) (eqL (safeF h mv ls s ((i', h', g') :: @List.nil (den SeenT))) (safeF h mv ls s ((i', h', g') :: @List.nil (den SeenT)))
    (eqL (safeF h mv ls s ((i', h', g') :: @List.nil (den SeenT))) (safeF h mv ls s ((i', h', g') :: @List.nil (den SeenT))) (need (eqT false false) (eqL true true (eqL
    (safeF h mv ls s ((i', h', addW IntKind.i64 g' more) :: @List.nil (den SeenT))) (safeF h mv ls s ((i', h', addW IntKind.i64 g' more) :: @List.nil (den SeenT))) (eqL
    (notB (safeF h mv ls s ((i', h', addW IntKind.i64 g' more) :: @List.nil (den SeenT)))) (notB (safeF h mv ls s ((i', h', addW IntKind.i64 g' more) :: @List.nil (den
    SeenT)))) (eqL (notB (safeF h mv ls s ((i', h', addW IntKind.i64 g' more) :: @List.nil (den SeenT)))) true (need (eqT true true) (eqL true true (eqL true true (eqL
    true true (eqL (safeF h mv ls s ((i', h', g') :: (i2, h2, g2) :: @List.nil (den SeenT))) (safeF h mv ls s ((i', h', g') :: (i2, h2, g2) :: @List.nil (den SeenT)))
    (eqL (notB (safeF h mv ls s ((i', h', g') :: (i2, h2, g2) :: @List.nil (den SeenT)))) (notB (safeF h mv ls s ((i', h', g') :: (i2, h2, g2) :: @List.nil (den SeenT))))
    (eqL (notB (safeF h mv ls s ((i', h', g') :: (i2, h2, g2) :: @List.nil (den SeenT)))) false (eqL (safeF h mv ls s ((i', h', g') :: @List.nil (den SeenT))) (safeF
    h mv ls s ((i', h', g') :: @List.nil (den SeenT))) (eqL (safeF h mv ls s ((i', h', g') :: @List.nil (den SeenT))) (safeF h mv ls s ((i', h', g') :: @List.nil (den
    SeenT))) (eqL (safeF h mv ls s ((i', h', g') :: @List.nil (den SeenT))) (safeF h mv ls s ((i', h', g') :: @List.nil (den SeenT))) (need (eqT false false) (eqL false
    false (AOut.ret (AV.bool false) = AOut.ret (AV.bool true))))))))))))))))))))))))))))))))))))))))))))))))))) (ifB (safeF h mv ls s ((i', h', g') :: @List.nil (den
    SeenT))) (ifB (notB (safeF h mv ls s ((i', h', g') :: (i2, h2, g2) :: @List.nil (den SeenT)))) (need (eqT true true) (eqL true true (eqL (safeF h mv ls s ((i', h',
    addW IntKind.i64 g' more) :: @List.nil (den SeenT))) (safeF h mv ls s ((i', h', addW IntKind.i64 g' more) :: @List.nil (den SeenT))) (eqL (notB (safeF h mv ls s
    ((i', h', addW IntKind.i64 g' more) :: @List.nil (den SeenT)))) (notB (safeF h mv ls s ((i', h', addW IntKind.i64 g' more) :: @List.nil (den SeenT)))) (eqL (notB
    (safeF h mv ls s ((i', h', addW IntKind.i64 g' more) :: @List.nil (den SeenT)))) false (eqL (safeF h mv ls s ((i', h', g') :: @List.nil (den SeenT))) (safeF h mv
    ls s ((i', h', g') :: @List.nil (den SeenT))) (eqL (safeF h mv ls s ((i', h', g') :: @List.nil (den SeenT))) (safeF h mv ls s ((i', h', g') :: @List.nil (den SeenT)))
    (eqL (safeF h mv ls s ((i', h', g') :: @List.nil (den SeenT))) (safeF h mv ls s ((i', h', g') :: @List.nil (den SeenT))) (eqL (safeF h mv ls s ((i', h', g') :: @List.nil
    (den SeenT))) true (eqL (safeF h mv ls s ((i', h', g') :: (i2, h2, g2) :: @List.nil (den SeenT))) (safeF h mv ls s ((i', h', g') :: (i2, h2, g2) :: @List.nil (den
    SeenT))) (eqL (notB (safeF h mv ls s ((i', h', g') :: (i2, h2, g2) :: @List.nil (den SeenT)))) (notB (safeF h mv ls s ((i', h', g') :: (i2, h2, g2) :: @List.nil
    (den SeenT)))) (eqL (notB (safeF h mv ls s ((i', h', g') :: (i2, h2, g2) :: @List.nil (den SeenT)))) true (need (eqT true true) (eqL true true (eqL true true (eqL
    true true (eqI i i (eqI h h (eqI g g (eqI i' i' (eqI h' h' (eqI (addW IntKind.i64 g' more) (addW IntKind.i64 g' more) (eqI s s (eqI i i (eqI h h (eqI g g (eqI i'
    i' (eqI h' h' (eqI g' g' (eqI s s (need (rI h) (need (rI h') (need (rI (addW IntKind.i64 g' more)) (need (rI s) (eqL true true (eqL (safeF h mv ls s ((i', h', addW
    IntKind.i64 g' more) :: @List.nil (den SeenT))) (safeF h mv ls s ((i', h', addW IntKind.i64 g' more) :: @List.nil (den SeenT))) (eqL (notB (safeF h mv ls s ((i',
    h', addW IntKind.i64 g' more) :: @List.nil (den SeenT)))) (notB (safeF h mv ls s ((i', h', addW IntKind.i64 g' more) :: @List.nil (den SeenT)))) (eqL (notB (safeF
    h mv ls s ((i', h', addW IntKind.i64 g' more) :: @List.nil (den SeenT)))) false (eqL (safeF h mv ls s ((i', h', g') :: @List.nil (den SeenT))) (safeF h mv ls s ((i',
    h', g') :: @List.nil (den SeenT))) (eqL (safeF h mv ls s ((i', h', g') :: @List.nil (den SeenT))) (safeF h mv ls s ((i', h', g') :: @List.nil (den SeenT))) (eqL
    (safeF h mv ls s ((i', h', g') :: @List.nil (den SeenT))) (safeF h mv ls s ((i', h', g') :: @List.nil (den SeenT))) (eqL (safeF h mv ls s ((i', h', g') :: @List.nil
    (den SeenT))) true (eqL (safeF h mv ls s ((i', h', g') :: (i2, h2, g2) :: @List.nil (den SeenT))) (safeF h mv ls s ((i', h', g') :: (i2, h2, g2) :: @List.nil (den
    SeenT))) (eqL (notB (safeF h mv ls s ((i', h', g') :: (i2, h2, g2) :: @List.nil (den SeenT)))) (notB (safeF h mv ls s ((i', h', g') :: (i2, h2, g2) :: @List.nil
    (den SeenT)))) (eqL (notB (safeF h mv ls s ((i', h', g') :: (i2, h2, g2) :: @List.nil (den SeenT)))) true (need (eqT true true) (eqL true true (eqL true true (eqI
    i i (eqI h h (eqI g g (eqI i' i' (eqI h' h' (eqI g' g' (eqI s s (need (rI h) (need (rI h') (need (rI g') (need (rI s) (eqL true true (eqL (safeF h mv ls s ((i',
    h', addW IntKind.i64 g' more) :: @List.nil (den SeenT))) (safeF h mv ls s ((i', h', addW IntKind.i64 g' more) :: @List.nil (den SeenT))) (eqL (notB (safeF h mv ls
    s ((i', h', addW IntKind.i64 g' more) :: @List.nil (den SeenT)))) (notB (safeF h mv ls s ((i', h', addW IntKind.i64 g' more) :: @List.nil (den SeenT)))) (eqL (notB
    (safeF h mv ls s ((i', h', addW IntKind.i64 g' more) :: @List.nil (den SeenT)))) false (eqL (safeF h mv ls s ((i', h', g') :: @List.nil (den SeenT))) (safeF h mv
    ls s ((i', h', g') :: @List.nil (den SeenT))) (eqL (safeF h mv ls s ((i', h', g') :: @List.nil (den SeenT))) (safeF h mv ls s ((i', h', g') :: @List.nil (den SeenT)))
    (eqL (safeF h mv ls s ((i', h', g') :: @List.nil (den SeenT))) (safeF h mv ls s ((i', h', g') :: @List.nil (den SeenT))) (eqL (safeF h mv ls s ((i', h', g') :: @List.nil
    (den SeenT))) true (eqL (safeF h mv ls s ((i', h', g') :: (i2, h2, g2) :: @List.nil (den SeenT))) (safeF h mv ls s ((i', h', g') :: (i2, h2, g2) :: @List.nil (den
    SeenT))) (eqL (notB (safeF h mv ls s ((i', h', g') :: (i2, h2, g2) :: @List.nil (den SeenT)))) (notB (safeF h mv ls s ((i', h', g') :: (i2, h2, g2) :: @List.nil
    (den SeenT)))) (eqL (notB (safeF h mv ls s ((i', h', g') :: (i2, h2, g2) :: @List.nil (den SeenT)))) true (need (eqT true true) (eqL true true (eqL true true (eqL
    (leB (gapF h h' (addW IntKind.i64 g' more) s) (gapF h h' g' s)) (leB (gapF h h' (addW IntKind.i64 g' more) s) (gapF h h' g' s)) (eqL (leB (gapF h h' (addW IntKind.i64
    g' more) s) (gapF h h' g' s)) (leB (gapF h h' (addW IntKind.i64 g' more) s) (gapF h h' g' s)) (AOut.ret (AV.bool (leB (gapF h h' (addW IntKind.i64 g' more) s) (gapF
    h h' g' s))) = AOut.ret (AV.bool true))))))))))))))))))))))))))))))))))))))))))))))))))))))))))))))))))))))))))))) (ifB (safeF h mv ls s ((i', h', g') :: @List.nil
    (den SeenT))) (eqL true true (eqL (safeF h mv ls s ((i', h', addW IntKind.i64 g' more) :: @List.nil (den SeenT))) (safeF h mv ls s ((i', h', addW IntKind.i64 g'
    more) :: @List.nil (den SeenT))) (eqL (notB (safeF h mv ls s ((i', h', addW IntKind.i64 g' more) :: @List.nil (den SeenT)))) (notB (safeF h mv ls s ((i', h', addW
    IntKind.i64 g' more) :: @List.nil (den SeenT)))) (eqL (notB (safeF h mv ls s ((i', h', addW IntKind.i64 g' more) :: @List.nil (den SeenT)))) false (eqL (safeF h
    mv ls s ((i', h', g') :: @List.nil (den SeenT))) (safeF h mv ls s ((i', h', g') :: @List.nil (den SeenT))) (eqL (safeF h mv ls s ((i', h', g') :: @List.nil (den
    SeenT))) (safeF h mv ls s ((i', h', g') :: @List.nil (den SeenT))) (eqL (safeF h mv ls s ((i', h', g') :: @List.nil (den SeenT))) (safeF h mv ls s ((i', h', g')
    :: @List.nil (den SeenT))) (eqL (safeF h mv ls s ((i', h', g') :: @List.nil (den SeenT))) true (eqL (safeF h mv ls s ((i', h', g') :: (i2, h2, g2) :: @List.nil (den
    SeenT))) (safeF h mv ls s ((i', h', g') :: (i2, h2, g2) :: @List.nil (den SeenT))) (eqL (notB (safeF h mv ls s ((i', h', g') :: (i2, h2, g2) :: @List.nil (den SeenT))))
    (notB (safeF h mv ls s ((i', h', g') :: (i2, h2, g2) :: @List.nil (den SeenT)))) (eqL (notB (safeF h mv ls s ((i', h', g') :: (i2, h2, g2) :: @List.nil (den SeenT))))
    false (eqL (safeF h mv ls s ((i', h', g') :: @List.nil (den SeenT))) (safeF h mv ls s ((i', h', g') :: @List.nil (den SeenT))) (eqL (safeF h mv ls s ((i', h', g')
    :: @List.nil (den SeenT))) (safeF h mv ls s ((i', h', g') :: @List.nil (den SeenT))) (eqL (safeF h mv ls s ((i', h', g') :: @List.nil (den SeenT))) (safeF h mv ls
    s ((i', h', g') :: @List.nil (den SeenT))) (eqL (safeF h mv ls s ((i', h', g') :: @List.nil (den SeenT))) true (eqI i i (eqI h h (eqI g g (eqI i' i' (eqI h' h' (eqI
    (addW IntKind.i64 g' more) (addW IntKind.i64 g' more) (eqI s s (eqI i i (eqI h h (eqI g g (eqI i' i' (eqI h' h' (eqI g' g' (eqI s s (need (rI h) (need (rI h') (need
    (rI (addW IntKind.i64 g' more)) (need (rI s) (eqL true true (eqL (safeF h mv ls s ((i', h', addW IntKind.i64 g' more) :: @List.nil (den SeenT))) (safeF h mv ls s
    ((i', h', addW IntKind.i64 g' more) :: @List.nil (den SeenT))) (eqL (notB (safeF h mv ls s ((i', h', addW IntKind.i64 g' more) :: @List.nil (den SeenT)))) (notB
    (safeF h mv ls s ((i', h', addW IntKind.i64 g' more) :: @List.nil (den SeenT)))) (eqL (notB (safeF h mv ls s ((i', h', addW IntKind.i64 g' more) :: @List.nil (den
    SeenT)))) false (eqL (safeF h mv ls s ((i', h', g') :: @List.nil (den SeenT))) (safeF h mv ls s ((i', h', g') :: @List.nil (den SeenT))) (eqL (safeF h mv ls s ((i',
    h', g') :: @List.nil (den SeenT))) (safeF h mv ls s ((i', h', g') :: @List.nil (den SeenT))) (eqL (safeF h mv ls s ((i', h', g') :: @List.nil (den SeenT))) (safeF
    h mv ls s ((i', h', g') :: @List.nil (den SeenT))) (eqL (safeF h mv ls s ((i', h', g') :: @List.nil (den SeenT))) true (eqL (safeF h mv ls s ((i', h', g') :: (i2,
    h2, g2) :: @List.nil (den SeenT))) (safeF h mv ls s ((i', h', g') :: (i2, h2, g2) :: @List.nil (den SeenT))) (eqL (notB (safeF h mv ls s ((i', h', g') :: (i2, h2,
    g2) :: @List.nil (den SeenT)))) (notB (safeF h mv ls s ((i', h', g') :: (i2, h2, g2) :: @List.nil (den SeenT)))) (eqL (notB (safeF h mv ls s ((i', h', g') :: (i2,
    h2, g2) :: @List.nil (den SeenT)))) false (eqL (safeF h mv ls s ((i', h', g') :: @List.nil (den SeenT))) (safeF h mv ls s ((i', h', g') :: @List.nil (den SeenT)))
    (eqL (safeF h mv ls s ((i', h', g') :: @List.nil (den SeenT))) (safeF h mv ls s ((i', h', g') :: @List.nil (den SeenT))) (eqL (safeF h mv ls s ((i', h', g') :: @List.nil
    (den SeenT))) (safeF h mv ls s ((i', h', g') :: @List.nil (den SeenT))) (eqI i i (eqI h h (eqI g g (eqI i' i' (eqI h' h' (eqI g' g' (eqI s s (need (rI h) (need (rI
    h') (need (rI g') (need (rI s) (eqL true true (eqL (safeF h mv ls s ((i', h', addW IntKind.i64 g' more) :: @List.nil (den SeenT))) (safeF h mv ls s ((i', h', addW
    IntKind.i64 g' more) :: @List.nil (den SeenT))) (eqL (notB (safeF h mv ls s ((i', h', addW IntKind.i64 g' more) :: @List.nil (den SeenT)))) (notB (safeF h mv ls
    s ((i', h', addW IntKind.i64 g' more) :: @List.nil (den SeenT)))) (eqL (notB (safeF h mv ls s ((i', h', addW IntKind.i64 g' more) :: @List.nil (den SeenT)))) false
    (eqL (safeF h mv ls s ((i', h', g') :: @List.nil (den SeenT))) (safeF h mv ls s ((i', h', g') :: @List.nil (den SeenT))) (eqL (safeF h mv ls s ((i', h', g') :: @List.nil
    (den SeenT))) (safeF h mv ls s ((i', h', g') :: @List.nil (den SeenT))) (eqL (safeF h mv ls s ((i', h', g') :: @List.nil (den SeenT))) (safeF h mv ls s ((i', h',
    g') :: @List.nil (den SeenT))) (eqL (safeF h mv ls s ((i', h', g') :: @List.nil (den SeenT))) true (eqL (safeF h mv ls s ((i', h', g') :: (i2, h2, g2) :: @List.nil
    (den SeenT))) (safeF h mv ls s ((i', h', g') :: (i2, h2, g2) :: @List.nil (den SeenT))) (eqL (notB (safeF h mv ls s ((i', h', g') :: (i2, h2, g2) :: @List.nil (den
    SeenT)))) (notB (safeF h mv ls s ((i', h', g') :: (i2, h2, g2) :: @List.nil (den SeenT)))) (eqL (notB (safeF h mv ls s ((i', h', g') :: (i2, h2, g2) :: @List.nil
    (den SeenT)))) false (eqL (safeF h mv ls s ((i', h', g') :: @List.nil (den SeenT))) (safeF h mv ls s ((i', h', g') :: @List.nil (den SeenT))) (eqL (safeF h mv ls
    s ((i', h', g') :: @List.nil (den SeenT))) (safeF h mv ls s ((i', h', g') :: @List.nil (den SeenT))) (eqL (safeF h mv ls s ((i', h', g') :: @List.nil (den SeenT)))
    (safeF h mv ls s ((i', h', g') :: @List.nil (den SeenT))) (eqL (leB (gapF h h' (addW IntKind.i64 g' more) s) (gapF h h' g' s)) (leB (gapF h h' (addW IntKind.i64
    g' more) s) (gapF h h' g' s)) (eqL (leB (gapF h h' (addW IntKind.i64 g' more) s) (gapF h h' g' s)) (leB (gapF h h' (addW IntKind.i64 g' more) s) (gapF h h' g' s))
    (AOut.ret (AV.bool (leB (gapF h h' (addW IntKind.i64 g' more) s) (gapF h h' g' s))) = AOut.ret (AV.bool true))))))))))))))))))))))))))))))))))))))))))))))))))))))))))))))))))))))))))))
    (eqL true true (eqL (safeF h mv ls s ((i', h', addW IntKind.i64 g' more) :: @List.nil (den SeenT))) (safeF h mv ls s ((i', h', addW IntKind.i64 g' more) :: @List.nil
    (den SeenT))) (eqL (notB (safeF h mv ls s ((i', h', addW IntKind.i64 g' more) :: @List.nil (den SeenT)))) (notB (safeF h mv ls s ((i', h', addW IntKind.i64 g' more)
    :: @List.nil (den SeenT)))) (eqL (notB (safeF h mv ls s ((i', h', addW IntKind.i64 g' more) :: @List.nil (den SeenT)))) false (eqL (safeF h mv ls s ((i', h', g')
    :: @List.nil (den SeenT))) (safeF h mv ls s ((i', h', g') :: @List.nil (den SeenT))) (eqL (safeF h mv ls s ((i', h', g') :: @List.nil (den SeenT))) (safeF h mv ls
    s ((i', h', g') :: @List.nil (den SeenT))) (eqL (safeF h mv ls s ((i', h', g') :: @List.nil (den SeenT))) (safeF h mv ls s ((i', h', g') :: @List.nil (den SeenT)))
    (eqL (safeF h mv ls s ((i', h', g') :: @List.nil (den SeenT))) true (eqL (safeF h mv ls s ((i', h', g') :: (i2, h2, g2) :: @List.nil (den SeenT))) (safeF h mv ls
    s ((i', h', g') :: (i2, h2, g2) :: @List.nil (den SeenT))) (eqL (notB (safeF h mv ls s ((i', h', g') :: (i2, h2, g2) :: @List.nil (den SeenT)))) (notB (safeF h mv
    ls s ((i', h', g') :: (i2, h2, g2) :: @List.nil (den SeenT)))) (eqL (notB (safeF h mv ls s ((i', h', g') :: (i2, h2, g2) :: @List.nil (den SeenT)))) false (eqL (safeF
    h mv ls s ((i', h', g') :: @List.nil (den SeenT))) (safeF h mv ls s ((i', h', g') :: @List.nil (den SeenT))) (eqL (safeF h mv ls s ((i', h', g') :: @List.nil (den
    SeenT))) (safeF h mv ls s ((i', h', g') :: @List.nil (den SeenT))) (eqL (safeF h mv ls s ((i', h', g') :: @List.nil (den SeenT))) (safeF h mv ls s ((i', h', g')
    :: @List.nil (den SeenT))) (eqL (safeF h mv ls s ((i', h', g') :: @List.nil (den SeenT))) false (eqL true true (eqL (safeF h mv ls s ((i', h', addW IntKind.i64 g'
    more) :: @List.nil (den SeenT))) (safeF h mv ls s ((i', h', addW IntKind.i64 g' more) :: @List.nil (den SeenT))) (eqL (notB (safeF h mv ls s ((i', h', addW IntKind.i64
    g' more) :: @List.nil (den SeenT)))) (notB (safeF h mv ls s ((i', h', addW IntKind.i64 g' more) :: @List.nil (den SeenT)))) (eqL (notB (safeF h mv ls s ((i', h',
    addW IntKind.i64 g' more) :: @List.nil (den SeenT)))) false (eqL (safeF h mv ls s ((i', h', g') :: @List.nil (den SeenT))) (safeF h mv ls s ((i', h', g') :: @List.nil
    (den SeenT))) (eqL (safeF h mv ls s ((i', h', g') :: @List.nil (den SeenT))) (safeF h mv ls s ((i', h', g') :: @List.nil (den SeenT))) (eqL (safeF h mv ls s ((i',
    h', g') :: @List.nil (den SeenT))) (safeF h mv ls s ((i', h', g') :: @List.nil (den SeenT))) (eqL (safeF h mv ls s ((i', h', g') :: @List.nil (den SeenT))) true
    (eqL (safeF h mv ls s ((i', h', g') :: (i2, h2, g2) :: @List.nil (den SeenT))) (safeF h mv ls s ((i', h', g') :: (i2, h2, g2) :: @List.nil (den SeenT))) (eqL (notB
    (safeF h mv ls s ((i', h', g') :: (i2, h2, g2) :: @List.nil (den SeenT)))) (notB (safeF h mv ls s ((i', h', g') :: (i2, h2, g2) :: @List.nil (den SeenT)))) (eqL
    (notB (safeF h mv ls s ((i', h', g') :: (i2, h2, g2) :: @List.nil (den SeenT)))) false (eqL (safeF h mv ls s ((i', h', g') :: @List.nil (den SeenT))) (safeF h mv
    ls s ((i', h', g') :: @List.nil (den SeenT))) (eqL (safeF h mv ls s ((i', h', g') :: @List.nil (den SeenT))) (safeF h mv ls s ((i', h', g') :: @List.nil (den SeenT)))
    (eqL (safeF h mv ls s ((i', h', g') :: @List.nil (den SeenT))) (safeF h mv ls s ((i', h', g') :: @List.nil (den SeenT))) (need (eqT false false) (eqL true true (eqL
    (safeF h mv ls s ((i', h', addW IntKind.i64 g' more) :: @List.nil (den SeenT))) (safeF h mv ls s ((i', h', addW IntKind.i64 g' more) :: @List.nil (den SeenT))) (eqL
    (notB (safeF h mv ls s ((i', h', addW IntKind.i64 g' more) :: @List.nil (den SeenT)))) (notB (safeF h mv ls s ((i', h', addW IntKind.i64 g' more) :: @List.nil (den
    SeenT)))) (eqL (notB (safeF h mv ls s ((i', h', addW IntKind.i64 g' more) :: @List.nil (den SeenT)))) false (eqL (safeF h mv ls s ((i', h', g') :: @List.nil (den
    SeenT))) (safeF h mv ls s ((i', h', g') :: @List.nil (den SeenT))) (eqL (safeF h mv ls s ((i', h', g') :: @List.nil (den SeenT))) (safeF h mv ls s ((i', h', g')
    :: @List.nil (den SeenT))) (eqL (safeF h mv ls s ((i', h', g') :: @List.nil (den SeenT))) (safeF h mv ls s ((i', h', g') :: @List.nil (den SeenT))) (eqL (safeF h
    mv ls s ((i', h', g') :: @List.nil (den SeenT))) true (eqL (safeF h mv ls s ((i', h', g') :: (i2, h2, g2) :: @List.nil (den SeenT))) (safeF h mv ls s ((i', h', g')
    :: (i2, h2, g2) :: @List.nil (den SeenT))) (eqL (notB (safeF h mv ls s ((i', h', g') :: (i2, h2, g2) :: @List.nil (den SeenT)))) (notB (safeF h mv ls s ((i', h',
    g') :: (i2, h2, g2) :: @List.nil (den SeenT)))) (eqL (notB (safeF h mv ls s ((i', h', g') :: (i2, h2, g2) :: @List.nil (den SeenT)))) false (eqL (safeF h mv ls s
    ((i', h', g') :: @List.nil (den SeenT))) (safeF h mv ls s ((i', h', g') :: @List.nil (den SeenT))) (eqL (safeF h mv ls s ((i', h', g') :: @List.nil (den SeenT)))
    (safeF h mv ls s ((i', h', g') :: @List.nil (den SeenT))) (eqL (safeF h mv ls s ((i', h', g') :: @List.nil (den SeenT))) (safeF h mv ls s ((i', h', g') :: @List.nil
    (den SeenT))) (need (eqT false false) (eqL false false (AOut.ret (AV.bool false) = AOut.ret (AV.bool true)))))))))))))))))))))))))))))))))))))))))))))))))) (need
    (eqT false false) (eqL true true (eqL (safeF h mv ls s ((i', h', addW IntKind.i64 g' more) :: @List.nil (den SeenT))) (safeF h mv ls s ((i', h', addW IntKind.i64
    g' more) :: @List.nil (den SeenT))) (eqL (notB (safeF h mv ls s ((i', h', addW IntKind.i64 g' more) :: @List.nil (den SeenT)))) (notB (safeF h mv ls s ((i', h',
    addW IntKind.i64 g' more) :: @List.nil (den SeenT)))) (eqL (notB (safeF h mv ls s ((i', h', addW IntKind.i64 g' more) :: @List.nil (den SeenT)))) false (eqL (safeF
    h mv ls s ((i', h', g') :: @List.nil (den SeenT))) (safeF h mv ls s ((i', h', g') :: @List.nil (den SeenT))) (eqL (safeF h mv ls s ((i', h', g') :: @List.nil (den
    SeenT))) (safeF h mv ls s ((i', h', g') :: @List.nil (den SeenT))) (eqL (safeF h mv ls s ((i', h', g') :: @List.nil (den SeenT))) (safeF h mv ls s ((i', h', g')
    :: @List.nil (den SeenT))) (eqL (safeF h mv ls s ((i', h', g') :: @List.nil (den SeenT))) false (need (eqT false false) (eqL false false (eqL false false (eqL true
    true (eqL (safeF h mv ls s ((i', h', addW IntKind.i64 g' more) :: @List.nil (den SeenT))) (safeF h mv ls s ((i', h', addW IntKind.i64 g' more) :: @List.nil (den
    SeenT))) (eqL (notB (safeF h mv ls s ((i', h', addW IntKind.i64 g' more) :: @List.nil (den SeenT)))) (notB (safeF h mv ls s ((i', h', addW IntKind.i64 g' more) ::
    @List.nil (den SeenT)))) (eqL (notB (safeF h mv ls s ((i', h', addW IntKind.i64 g' more) :: @List.nil (den SeenT)))) false (eqL (safeF h mv ls s ((i', h', g') ::
    @List.nil (den SeenT))) (safeF h mv ls s ((i', h', g') :: @List.nil (den SeenT))) (eqL (safeF h mv ls s ((i', h', g') :: @List.nil (den SeenT))) (safeF h mv ls s
    ((i', h', g') :: @List.nil (den SeenT))) (eqL (safeF h mv ls s ((i', h', g') :: @List.nil (den SeenT))) (safeF h mv ls s ((i', h', g') :: @List.nil (den SeenT)))
    (eqL (safeF h mv ls s ((i', h', g') :: @List.nil (den SeenT))) false (need (eqT false false) (eqL false false (need (eqT false false) (eqL true true (eqL (safeF
    h mv ls s ((i', h', addW IntKind.i64 g' more) :: @List.nil (den SeenT))) (safeF h mv ls s ((i', h', addW IntKind.i64 g' more) :: @List.nil (den SeenT))) (eqL (notB
    (safeF h mv ls s ((i', h', addW IntKind.i64 g' more) :: @List.nil (den SeenT)))) (notB (safeF h mv ls s ((i', h', addW IntKind.i64 g' more) :: @List.nil (den SeenT))))
    (eqL (notB (safeF h mv ls s ((i', h', addW IntKind.i64 g' more) :: @List.nil (den SeenT)))) false (eqL (safeF h mv ls s ((i', h', g') :: @List.nil (den SeenT)))
    (safeF h mv ls s ((i', h', g') :: @List.nil (den SeenT))) (eqL (safeF h mv ls s ((i', h', g') :: @List.nil (den SeenT))) (safeF h mv ls s ((i', h', g') :: @List.nil
    (den SeenT))) (eqL (safeF h mv ls s ((i', h', g') :: @List.nil (den SeenT))) (safeF h mv ls s ((i', h', g') :: @List.nil (den SeenT))) (eqL (safeF h mv ls s ((i',
    h', g') :: @List.nil (den SeenT))) false (need (eqT false false) (eqL false false (need (eqT false false) (eqL false false (AOut.ret (AV.bool false) = AOut.ret (AV.bool
    true)))))))))))))))))))))))))))))))))))))))))))))))))))))))))))))))))))))))))))))))))))))))))))))))))))))))))))))) := by kernel_rfl
theorem PairOlder_call : CallOK Try.prog (acall tab fs_alive specs_size fns 100 20) := mkCall fsOK_alive specsOK_size fnsOK
theorem PairOlder_go (i h g i' h' g' i2 h2 g2 mv ls s more : Int) (w : rI i' ∧ rI h ∧ rI h' ∧ rI g' ∧ rI i2 ∧ rI h2 ∧ rI g2 ∧ rI mv ∧ rI ls ∧ rI s ∧ rI more) : LawEv (acall tab fs_alive specs_size fns 100 20) 5 [.agg [.int .i64 i, .int .i64 h, .int .i64 g], .agg [.int .i64 i', .int .i64 h', .int .i64 g'], .agg [.int .i64 i2, .int .i64 h2, .int .i64 g2], .int .i64 mv, .int .i64 ls, .int .i64 s, .int .i64 more] := by
  refine ⟨?_⟩
  rw [PairOlder_eq]
  rw [ifB_def]
  refine ⟨fun _ => rfl, fun hg => ?_⟩
  simp only [selB_t, ltB_def, Bool.or_eq_false_iff, decide_eq_false_iff_not, Int.not_lt] at hg
  obtain ⟨w0, w1, w2, w3, w4, w5, w6, w7, w8, w9, w10⟩ := w
  have ea : addW .i64 g' more = g' + more := addW64 (by omega) (by omega)
  have ra : rI (g' + more) := by unfold rI; omega
  have q1 : rIs [((i', h', g') : den SeenT)] := by unfold rIs; simp [w0, w2, w3]
  have q2 : rIs [((i', h', g' + more) : den SeenT)] := by unfold rIs; simp [w0, w2, ra]
  have q3 : rIs [((i', h', g') : den SeenT), ((i2, h2, g2) : den SeenT)] := by unfold rIs; simp [w0, w2, w3, w4, w5, w6]
  have lo : ∀ x : den SeenT, lenOK (lenI [x]) := fun _ => by unfold lenOK lenI; simp
  have lo2 : ∀ x y : den SeenT, lenOK (lenI [x, y]) := fun _ _ => by unfold lenOK lenI; simp
  have s21 : safeF h mv ls s [((i', h', g' + more) : den SeenT)] = true → safeF h mv ls s [((i', h', g') : den SeenT)] = true := by
    unfold safeF allRoom
    simp only [List.all_cons, List.all_nil, Bool.and_true, Bool.and_eq_true]
    exact fun ⟨x, y⟩ => ⟨x, room_older (by omega) y⟩
  have s31 : safeF h mv ls s [((i', h', g') : den SeenT), ((i2, h2, g2) : den SeenT)] = true → safeF h mv ls s [((i', h', g') : den SeenT)] = true := by
    unfold safeF allRoom
    simp only [List.all_cons, List.all_nil, Bool.and_true, Bool.and_eq_true]
    exact fun ⟨x, y, _⟩ => ⟨x, y⟩
  have sg : leB (gapF h h' (g' + more) s) (gapF h h' g' s) = true := leB_t.2 (gap_older (by omega))
  rw [ea]
  generalize safeF h mv ls s [((i', h', g') : den SeenT)] = S1 at *
  generalize safeF h mv ls s [((i', h', g' + more) : den SeenT)] = S2 at *
  generalize safeF h mv ls s [((i', h', g') : den SeenT), ((i2, h2, g2) : den SeenT)] = S3 at *
  simp only [sg, need_def, eqI_def, lo, lo2, q1, q2, q3, w1, w2, w3, w7, w8, w9, ra, true_and, and_true]
  cases S1 <;> cases S2 <;> cases S3 <;> first | (exact absurd (s21 rfl) Bool.false_ne_true) | (exact absurd (s31 rfl) Bool.false_ne_true) | (simp only [notB_def, ifB_def, eqL_def, eqT_def, Bool.not_true, Bool.not_false, true_and, and_true, implies_true, Bool.false_eq_true, Bool.true_eq_false, false_implies, true_implies, and_self]; done)
theorem PairOlder_ev : ∀ xs : DT [(.prod (.int .i64) (.prod (.int .i64) (.int .i64))), (.prod (.int .i64) (.prod (.int .i64) (.int .i64))), (.prod (.int .i64) (.prod (.int .i64) (.int .i64))), (.int .i64), (.int .i64), (.int .i64), (.int .i64)], wfs [(.prod (.int .i64) (.prod (.int .i64) (.int .i64))), (.prod (.int .i64) (.prod (.int .i64) (.int .i64))), (.prod (.int .i64) (.prod (.int .i64) (.int .i64))), (.int .i64), (.int .i64), (.int .i64), (.int .i64)] xs → LawEv (acall tab fs_alive specs_size fns 100 20) 5 (argsA tab #[23, 23, 23, 3, 3, 3, 3].toList [(.prod (.int .i64) (.prod (.int .i64) (.int .i64))), (.prod (.int .i64) (.prod (.int .i64) (.int .i64))), (.prod (.int .i64) (.prod (.int .i64) (.int .i64))), (.int .i64), (.int .i64), (.int .i64), (.int .i64)] xs) := by
  rintro ⟨⟨i, h, g⟩, ⟨i', h', g'⟩, ⟨i2, h2, g2⟩, mv, ls, s, more, ⟨⟩⟩ hw
  exact PairOlder_go i h g i' h' g' i2 h2 g2 mv ls s more ⟨hasI hw.2.1.1, hasI hw.1.2.1, hasI hw.2.1.2.1, hasI hw.2.1.2.2, hasI hw.2.2.1.1, hasI hw.2.2.1.2.1, hasI hw.2.2.1.2.2, hasI hw.2.2.2.1, hasI hw.2.2.2.2.1, hasI hw.2.2.2.2.2.1, hasI hw.2.2.2.2.2.2.1⟩



theorem PairOlder_own : ownKnob Try.prog.godebug = none := by kernel_rfl
theorem PairOlder_kids : Kids Try.prog (· < Try.prog.types.size) := kids_rows (by kernel_rfl) (by kernel_rfl)
theorem PairOlder_full : ∀ t e, t < Try.prog.types.size → Try.prog.underlying t = some (.slice e) → 0 < Try.prog.cellsOf e := slices_full_of _ (by kernel_rfl)

theorem PairOlder_lifted (os : Os) (started : os.Started) (H : Type) (enc : TypeId × Value → H) :
    ReturnsInHanded {} Try.checked os 5 .any (Rows.pairOlderSpec.pre6 enc Try.prog Try.f5 Rows.pairOlderRow.domain false) (Rows.pairOlderSpec.post enc Try.prog Try.f5 false true false false) := by
  refine returnsInHanded_of_change_shaped (C := Try.checked) PairOlder_own started (by kernel_rfl) Try.func5
    (ChangeSpec.witness6 (enc := enc) (C := Try.checked) false ⟨#[], #[(Value.agg #[(Value.int IntKind.i64 0), (Value.int IntKind.i64 0), (Value.int IntKind.i64 0)]), (Value.agg #[(Value.int IntKind.i64 0), (Value.int IntKind.i64 0), (Value.int IntKind.i64 0)]), (Value.agg #[(Value.int IntKind.i64 0), (Value.int IntKind.i64 0), (Value.int IntKind.i64 0)]), (Value.int IntKind.i64 0), (Value.int IntKind.i64 0), (Value.int IntKind.i64 0), (Value.int IntKind.i64 0)], []⟩ 8 (by kernel_rfl) (by kernel_rfl) (by kernel_rfl) (by kernel_rfl)) ?_
  intro W base args ds gs before hval hW _ hwt _ _
  refine law_contract' (P := Try.prog) (fn := Try.f5) (s := Rows.pairOlderSpec) (tb := 4) (Ts := [(.prod (.int .i64) (.prod (.int .i64) (.int .i64))), (.prod (.int .i64) (.prod (.int .i64) (.int .i64))), (.prod (.int .i64) (.prod (.int .i64) (.int .i64))), (.int .i64), (.int .i64), (.int .i64), (.int .i64)]) (call := (acall tab fs_alive specs_size fns 100 20)) (f := 5) tabOK PairOlder_call PairOlder_kids PairOlder_full Try.params5 (by decide +kernel) rfl rfl Try.underlying4 ?_ (by kernel_rfl) PairOlder_ev hval hW hwt
  intro ds hl
  match ds, hl with
  | [d0, d1, d2, d3, d4, d5, d6], _ => rfl

theorem PairOlder_holds : Rows.PairOlderSaid :=
  OpenClaim.holds_of_wide 5 Try.f5 rfl rfl rfl rfl rfl rfl rfl ⟨rfl, rfl, rfl, rfl, rfl⟩ rfl rfl rfl rfl rfl (by kernel_rfl) Try.func5 (by kernel_rfl)
    (of_decide_eq_true (by kernel_rfl)) (by unfold Func.isWrapper; first | (rw [if_pos (by decide +kernel)]; kernel_rfl) | (rw [if_neg (by decide +kernel)]; exact ⟨rfl, rfl⟩))
    (fun os started H enc _ => PairOlder_lifted os started H enc)

end Go.Proofs.Yticnfdlfhakneaa

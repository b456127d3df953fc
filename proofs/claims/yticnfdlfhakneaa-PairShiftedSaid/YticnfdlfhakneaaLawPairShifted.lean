/- Yticnfdlfhakneaa: the law PairShifted returns true for every input, and its arguments read as they did: no condition. -/
import Derived.Test.YticnfdlfhakneaaRows
import Derived.Test.YticnfdlfhakneaaSxV
import Derived.Test.YticnfdlfhakneaaSmPairB
import Derived.HandedShaped
namespace Go.Proofs.Yticnfdlfhakneaa
open Go.ChangeShapes Go.WideShapes Go.ChangeAt Go.RowKit Sx
set_option maxRecDepth 100000
set_option linter.unusedVariables false
set_option linter.unusedSimpArgs false
set_option maxHeartbeats 4000000

theorem hasI {a : Int} (h : IntKind.has .i64 a) : rI a := has64.1 h
theorem apart_shift (h h' b : Int) : apartF (h + b) (h' + b) = apartF h h' := by unfold apartF; split <;> split <;> omega
theorem apart_comm (h h' : Int) : apartF h h' = apartF h' h := by unfold apartF; split <;> split <;> omega
theorem sense_shift (i h i' h' al b : Int) : senseF i (h + b) i' (h' + b) al = senseF i h i' h' al := by
  unfold senseF; rw [apart_shift]; (repeat' split) <;> omega
theorem gap_shift (h h' g s b : Int) : gapF (h + b) (h' + b) g s = gapF h h' g s := by unfold gapF; rw [apart_shift]
theorem gap_comm (h h' g s : Int) : gapF h' h g s = gapF h h' g s := by unfold gapF; rw [apart_comm]
theorem safe_shift (i' h mv ls s h' g' b : Int) : safeF (h + b) mv ls s [((i', h' + b, g') : den SeenT)] = safeF h mv ls s [((i', h', g') : den SeenT)] := by
  unfold safeF allRoom roomF
  simp only [List.all_cons, List.all_nil]
  rw [show h + b + mv = h + mv + b by omega, apart_shift]
theorem eqB_self (a : Int) : eqB a a = true := eqB_t.2 rfl
theorem beqB_self (a : Bool) : beqB a a = true := by cases a <;> rfl
theorem PairShifted_eq (i h g i' h' g' b al mv ls s : Int) : acall tab fs_alive specs_size fns 100 20 7 [.agg [.int .i64 i, .int .i64 h, .int .i64 g], .agg [.int .i64 i', .int .i64 h', .int .i64 g'], .int .i64 b, .int .i64 al, .int .i64 mv, .int .i64 ls, .int .i64 s] [] (fun o _ _ _ => o = .ret (.bool true)) =
  (ifB (selB (selB (selB (selB (selB (ltB 1099511627776 h) true (ltB h (-1099511627776))) true (ltB 1099511627776 h')) true (ltB h' (-1099511627776))) true (ltB 1099511627776
    b)) true (ltB b (-1099511627776))) (AOut.ret (AV.bool true) = AOut.ret (AV.bool true)) (eqI i i (eqI h h (eqI g g (eqI i' i' (eqI h' h' (eqI g' g' (need (eqI i i
    (eqI h h (eqI g g (eqI i' i' (eqI h' h' (eqI g' g' (eqI i i (eqI h h (eqI g g (eqI i' i' (eqI h' h' (eqI g' g' (eqI i' i' (eqI h' h' (eqI g' g' (eqL true true (eqI
    i i (eqI (addW IntKind.i64 h b) (addW IntKind.i64 h b) (eqI g g (eqI i' i' (eqI (addW IntKind.i64 h' b) (addW IntKind.i64 h' b) (eqI g' g' (eqI al al (eqI i i (eqI
    h h (eqI g g (eqI i' i' (eqI h' h' (eqI g' g' (eqI al al (need (rI (addW IntKind.i64 h b)) (need (rI (addW IntKind.i64 h' b)) (need (rI al) (eqI i i (eqI h h (eqI
    g g (eqI i' i' (eqI h' h' (eqI g' g' (eqI al al (need (rI h) (need (rI h') (need (rI al) (ifB (eqB (senseF i (addW IntKind.i64 h b) i' (addW IntKind.i64 h' b) al)
    (senseF i h i' h' al)) (eqL (eqB (senseF i (addW IntKind.i64 h b) i' (addW IntKind.i64 h' b) al) (senseF i h i' h' al)) (eqB (senseF i (addW IntKind.i64 h b) i'
    (addW IntKind.i64 h' b) al) (senseF i h i' h' al)) (eqL (eqB (senseF i (addW IntKind.i64 h b) i' (addW IntKind.i64 h' b) al) (senseF i h i' h' al)) (eqB (senseF
    i (addW IntKind.i64 h b) i' (addW IntKind.i64 h' b) al) (senseF i h i' h' al)) (eqL (eqB (senseF i (addW IntKind.i64 h b) i' (addW IntKind.i64 h' b) al) (senseF
    i h i' h' al)) true (eqI i i (eqI (addW IntKind.i64 h b) (addW IntKind.i64 h b) (eqI g g (eqI i' i' (eqI (addW IntKind.i64 h' b) (addW IntKind.i64 h' b) (eqI g'
    g' (eqI s s (eqI i i (eqI h h (eqI g g (eqI i' i' (eqI h' h' (eqI g' g' (eqI s s (need (rI (addW IntKind.i64 h b)) (need (rI (addW IntKind.i64 h' b)) (need (rI g')
    (need (rI s) (eqL (eqB (senseF i (addW IntKind.i64 h b) i' (addW IntKind.i64 h' b) al) (senseF i h i' h' al)) (eqB (senseF i (addW IntKind.i64 h b) i' (addW IntKind.i64
    h' b) al) (senseF i h i' h' al)) (eqL (eqB (senseF i (addW IntKind.i64 h b) i' (addW IntKind.i64 h' b) al) (senseF i h i' h' al)) (eqB (senseF i (addW IntKind.i64
    h b) i' (addW IntKind.i64 h' b) al) (senseF i h i' h' al)) (eqI i i (eqI h h (eqI g g (eqI i' i' (eqI h' h' (eqI g' g' (eqI s s (need (rI h) (need (rI h') (need
    (rI g') (need (rI s) (ifB (eqB (gapF (addW IntKind.i64 h b) (addW IntKind.i64 h' b) g' s) (gapF h h' g' s)) (eqL (eqB (senseF i (addW IntKind.i64 h b) i' (addW IntKind.i64
    h' b) al) (senseF i h i' h' al)) (eqB (senseF i (addW IntKind.i64 h b) i' (addW IntKind.i64 h' b) al) (senseF i h i' h' al)) (eqL (eqB (senseF i (addW IntKind.i64
    h b) i' (addW IntKind.i64 h' b) al) (senseF i h i' h' al)) (eqB (senseF i (addW IntKind.i64 h b) i' (addW IntKind.i64 h' b) al) (senseF i h i' h' al)) (eqL (eqB
    (gapF (addW IntKind.i64 h b) (addW IntKind.i64 h' b) g' s) (gapF h h' g' s)) (eqB (gapF (addW IntKind.i64 h b) (addW IntKind.i64 h' b) g' s) (gapF h h' g' s)) (eqL
    (eqB (gapF (addW IntKind.i64 h b) (addW IntKind.i64 h' b) g' s) (gapF h h' g' s)) (eqB (gapF (addW IntKind.i64 h b) (addW IntKind.i64 h' b) g' s) (gapF h h' g' s))
    (eqL (eqB (gapF (addW IntKind.i64 h b) (addW IntKind.i64 h' b) g' s) (gapF h h' g' s)) true (eqI i i (eqI (addW IntKind.i64 h b) (addW IntKind.i64 h b) (eqI g g
    (eqI mv mv (eqI ls ls (eqI s s (eqI i' i' (eqI (addW IntKind.i64 h' b) (addW IntKind.i64 h' b) (eqI g' g' (eqI i i (eqI h h (eqI g g (eqI mv mv (eqI ls ls (eqI s
    s (eqI i' i' (eqI h' h' (eqI g' g' (need (eqL (eqB (senseF i (addW IntKind.i64 h b) i' (addW IntKind.i64 h' b) al) (senseF i h i' h' al)) (eqB (senseF i (addW IntKind.i64
    h b) i' (addW IntKind.i64 h' b) al) (senseF i h i' h' al)) (eqL (eqB (senseF i (addW IntKind.i64 h b) i' (addW IntKind.i64 h' b) al) (senseF i h i' h' al)) (eqB
    (senseF i (addW IntKind.i64 h b) i' (addW IntKind.i64 h' b) al) (senseF i h i' h' al)) (eqL (eqB (gapF (addW IntKind.i64 h b) (addW IntKind.i64 h' b) g' s) (gapF
    h h' g' s)) (eqB (gapF (addW IntKind.i64 h b) (addW IntKind.i64 h' b) g' s) (gapF h h' g' s)) (eqL (eqB (gapF (addW IntKind.i64 h b) (addW IntKind.i64 h' b) g' s)
    (gapF h h' g' s)) (eqB (gapF (addW IntKind.i64 h b) (addW IntKind.i64 h' b) g' s) (gapF h h' g' s)) (eqI i i (eqI (addW IntKind.i64 h b) (addW IntKind.i64 h b) (eqI
    g g (eqI mv mv (eqI ls ls (eqI s s (eqI i i (eqI h h (eqI g g (eqI mv mv (eqI ls ls (eqI s s (eqI i' i' (eqI h' h' (eqI g' g' (need (need (lenOK (lenI ((i', addW
    IntKind.i64 h' b, g') :: @List.nil (den SeenT)))) (need (rI (addW IntKind.i64 h b)) (need (rI mv) (need (rI ls) (need (rI s) (need (rIs ((i', addW IntKind.i64 h'
    b, g') :: @List.nil (den SeenT))) (eqL (eqB (senseF i (addW IntKind.i64 h b) i' (addW IntKind.i64 h' b) al) (senseF i h i' h' al)) (eqB (senseF i (addW IntKind.i64
    h b) i' (addW IntKind.i64 h' b) al) (senseF i h i' h' al)) (eqL (eqB (senseF i (addW IntKind.i64 h b) i' (addW IntKind.i64 h' b) al) (senseF i h i' h' al)) (eqB
    (senseF i (addW IntKind.i64 h b) i' (addW IntKind.i64 h' b) al) (senseF i h i' h' al)) (eqL (eqB (gapF (addW IntKind.i64 h b) (addW IntKind.i64 h' b) g' s) (gapF
    h h' g' s)) (eqB (gapF (addW IntKind.i64 h b) (addW IntKind.i64 h' b) g' s) (gapF h h' g' s)) (eqL (eqB (gapF (addW IntKind.i64 h b) (addW IntKind.i64 h' b) g' s)
    (gapF h h' g' s)) (eqB (gapF (addW IntKind.i64 h b) (addW IntKind.i64 h' b) g' s) (gapF h h' g' s)) (eqI i i (eqI h h (eqI g g (eqI mv mv (eqI ls ls (eqI s s (eqI
    i' i' (eqI h' h' (eqI g' g' (eqL (eqB (senseF i (addW IntKind.i64 h b) i' (addW IntKind.i64 h' b) al) (senseF i h i' h' al)) (eqB (senseF i (addW IntKind.i64 h b)
    i' (addW IntKind.i64 h' b) al) (senseF i h i' h' al)) (eqL (eqB (senseF i (addW IntKind.i64 h b) i' (addW IntKind.i64 h' b) al) (senseF i h i' h' al)) (eqB (senseF
    i (addW IntKind.i64 h b) i' (addW IntKind.i64 h' b) al) (senseF i h i' h' al)) (eqL (eqB (gapF (addW IntKind.i64 h b) (addW IntKind.i64 h' b) g' s) (gapF h h' g'
    s)) (eqB (gapF (addW IntKind.i64 h b) (addW IntKind.i64 h' b) g' s) (gapF h h' g' s)) (eqL (eqB (gapF (addW IntKind.i64 h b) (addW IntKind.i64 h' b) g' s) (gapF
    h h' g' s)) (eqB (gapF (addW IntKind.i64 h b) (addW IntKind.i64 h' b) g' s) (gapF h h' g' s)) (eqI i i (eqI h h (eqI g g (eqI mv mv (eqI ls ls (eqI s s (need (lenOK
    (lenI ((i', h', g') :: @List.nil (den SeenT)))) (need (rI h) (need (rI mv) (need (rI ls) (need (rI s) (need (rIs ((i', h', g') :: @List.nil (den SeenT))) (ifB (beqB
    (safeF (addW IntKind.i64 h b) mv ls s ((i', addW IntKind.i64 h' b, g') :: @List.nil (den SeenT))) (safeF h mv ls s ((i', h', g') :: @List.nil (den SeenT)))) (eqL
    (eqB (senseF i (addW IntKind.i64 h b) i' (addW IntKind.i64 h' b) al) (senseF i h i' h' al)) (eqB (senseF i (addW IntKind.i64 h b) i' (addW IntKind.i64 h' b) al)
    (senseF i h i' h' al)) (eqL (eqB (senseF i (addW IntKind.i64 h b) i' (addW IntKind.i64 h' b) al) (senseF i h i' h' al)) (eqB (senseF i (addW IntKind.i64 h b) i'
    (addW IntKind.i64 h' b) al) (senseF i h i' h' al)) (eqL (eqB (gapF (addW IntKind.i64 h b) (addW IntKind.i64 h' b) g' s) (gapF h h' g' s)) (eqB (gapF (addW IntKind.i64
    h b) (addW IntKind.i64 h' b) g' s) (gapF h h' g' s)) (eqL (eqB (gapF (addW IntKind.i64 h b) (addW IntKind.i64 h' b) g' s) (gapF h h' g' s)) (eqB (gapF (addW IntKind.i64
    h b) (addW IntKind.i64 h' b) g' s) (gapF h h' g' s)) (eqL (beqB (safeF (addW IntKind.i64 h b) mv ls s ((i', addW IntKind.i64 h' b, g') :: @List.nil (den SeenT)))
    (safeF h mv ls s ((i', h', g') :: @List.nil (den SeenT)))) (beqB (safeF (addW IntKind.i64 h b) mv ls s ((i', addW IntKind.i64 h' b, g') :: @List.nil (den SeenT)))
    (safeF h mv ls s ((i', h', g') :: @List.nil (den SeenT)))) (eqL (beqB (safeF (addW IntKind.i64 h b) mv ls s ((i', addW IntKind.i64 h' b, g') :: @List.nil (den SeenT)))
    (safeF h mv ls s ((i', h', g') :: @List.nil (den SeenT)))) (beqB (safeF (addW IntKind.i64 h b) mv ls s ((i', addW IntKind.i64 h' b, g') :: @List.nil (den SeenT)))
    (safeF h mv ls s ((i', h', g') :: @List.nil (den SeenT)))) (eqL (beqB (safeF (addW IntKind.i64 h b) mv ls s ((i', addW IntKind.i64 h' b, g') :: @List.nil (den SeenT)))
    (safeF h mv ls s ((i', h', g') :: @List.nil (den SeenT)))) true (eqI i i (eqI h h (eqI g g (eqI i' i' (eqI h' h' (eqI g' g' (eqI s s (eqI h' h' (eqI 0 0 (eqI h'
    h' (eqI 0 0 (eqI h h (eqI g' g' (eqI 0 0 (eqI h h (eqI g' g' (eqI s s (need (rI h) (need (rI h') (need (rI g') (need (rI s) (eqL (eqB (senseF i (addW IntKind.i64
    h b) i' (addW IntKind.i64 h' b) al) (senseF i h i' h' al)) (eqB (senseF i (addW IntKind.i64 h b) i' (addW IntKind.i64 h' b) al) (senseF i h i' h' al)) (eqL (eqB
    (senseF i (addW IntKind.i64 h b) i' (addW IntKind.i64 h' b) al) (senseF i h i' h' al)) (eqB (senseF i (addW IntKind.i64 h b) i' (addW IntKind.i64 h' b) al) (senseF
    i h i' h' al)) (eqL (eqB (gapF (addW IntKind.i64 h b) (addW IntKind.i64 h' b) g' s) (gapF h h' g' s)) (eqB (gapF (addW IntKind.i64 h b) (addW IntKind.i64 h' b) g'
    s) (gapF h h' g' s)) (eqL (eqB (gapF (addW IntKind.i64 h b) (addW IntKind.i64 h' b) g' s) (gapF h h' g' s)) (eqB (gapF (addW IntKind.i64 h b) (addW IntKind.i64 h'
    b) g' s) (gapF h h' g' s)) (eqL (beqB (safeF (addW IntKind.i64 h b) mv ls s ((i', addW IntKind.i64 h' b, g') :: @List.nil (den SeenT))) (safeF h mv ls s ((i', h',
    g') :: @List.nil (den SeenT)))) (beqB (safeF (addW IntKind.i64 h b) mv ls s ((i', addW IntKind.i64 h' b, g') :: @List.nil (den SeenT))) (safeF h mv ls s ((i', h',
    g') :: @List.nil (den SeenT)))) (eqL (beqB (safeF (addW IntKind.i64 h b) mv ls s ((i', addW IntKind.i64 h' b, g') :: @List.nil (den SeenT))) (safeF h mv ls s ((i',
    h', g') :: @List.nil (den SeenT)))) (beqB (safeF (addW IntKind.i64 h b) mv ls s ((i', addW IntKind.i64 h' b, g') :: @List.nil (den SeenT))) (safeF h mv ls s ((i',
    h', g') :: @List.nil (den SeenT)))) (eqI h' h' (eqI 0 0 (eqI h' h' (eqI 0 0 (eqI h h (eqI g' g' (eqI 0 0 (eqI h h (eqI g' g' (eqI s s (need (rI h') (need (rI h)
    (need (rI g') (need (rI s) (eqL (eqB (senseF i (addW IntKind.i64 h b) i' (addW IntKind.i64 h' b) al) (senseF i h i' h' al)) (eqB (senseF i (addW IntKind.i64 h b)
    i' (addW IntKind.i64 h' b) al) (senseF i h i' h' al)) (eqL (eqB (senseF i (addW IntKind.i64 h b) i' (addW IntKind.i64 h' b) al) (senseF i h i' h' al)) (eqB (senseF
    i (addW IntKind.i64 h b) i' (addW IntKind.i64 h' b) al) (senseF i h i' h' al)) (eqL (eqB (gapF (addW IntKind.i64 h b) (addW IntKind.i64 h' b) g' s) (gapF h h' g'
    s)) (eqB (gapF (addW IntKind.i64 h b) (addW IntKind.i64 h' b) g' s) (gapF h h' g' s)) (eqL (eqB (gapF (addW IntKind.i64 h b) (addW IntKind.i64 h' b) g' s) (gapF
    h h' g' s)) (eqB (gapF (addW IntKind.i64 h b) (addW IntKind.i64 h' b) g' s) (gapF h h' g' s)) (eqL (beqB (safeF (addW IntKind.i64 h b) mv ls s ((i', addW IntKind.i64
    h' b, g') :: @List.nil (den SeenT))) (safeF h mv ls s ((i', h', g') :: @List.nil (den SeenT)))) (beqB (safeF (addW IntKind.i64 h b) mv ls s ((i', addW IntKind.i64
    h' b, g') :: @List.nil (den SeenT))) (safeF h mv ls s ((i', h', g') :: @List.nil (den SeenT)))) (eqL (beqB (safeF (addW IntKind.i64 h b) mv ls s ((i', addW IntKind.i64
    h' b, g') :: @List.nil (den SeenT))) (safeF h mv ls s ((i', h', g') :: @List.nil (den SeenT)))) (beqB (safeF (addW IntKind.i64 h b) mv ls s ((i', addW IntKind.i64
    h' b, g') :: @List.nil (den SeenT))) (safeF h mv ls s ((i', h', g') :: @List.nil (den SeenT)))) (eqI h' h' (eqI h h (eqI g' g' (eqL (eqB (gapF h h' g' s) (gapF h'
    h g' s)) (eqB (gapF h h' g' s) (gapF h' h g' s)) (eqL (eqB (gapF h h' g' s) (gapF h' h g' s)) (eqB (gapF h h' g' s) (gapF h' h g' s)) (AOut.ret (AV.bool (eqB (gapF
    h h' g' s) (gapF h' h g' s))) = AOut.ret (AV.bool true))))))))))))))))))))))))))))))))))))))))))))))))))))))))))))) (eqL (eqB (senseF i (addW IntKind.i64 h b) i'
    (addW IntKind.i64 h' b) al) (senseF i h i' h' al)) (eqB (senseF i (addW IntKind.i64 h b) i' (addW IntKind.i64 h' b) al) (senseF i h i' h' al)) (eqL (eqB (senseF
    i (addW IntKind.i64 h b) i' (addW IntKind.i64 h' b) al) (senseF i h i' h' al)) (eqB (senseF i (addW IntKind.i64 h b) i' (addW IntKind.i64 h' b) al) (senseF i h i'
    h' al)) (eqL (eqB (gapF (addW IntKind.i64 h b) (addW IntKind.i64 h' b) g' s) (gapF h h' g' s)) (eqB (gapF (addW IntKind.i64 h b) (addW IntKind.i64 h' b) g' s) (gapF
    h h' g' s)) (eqL (eqB (gapF (addW IntKind.i64 h b) (addW IntKind.i64 h' b) g' s) (gapF h h' g' s)) (eqB (gapF (addW IntKind.i64 h b) (addW IntKind.i64 h' b) g' s)
    (gapF h h' g' s)) (eqL (beqB (safeF (addW IntKind.i64 h b) mv ls s ((i', addW IntKind.i64 h' b, g') :: @List.nil (den SeenT))) (safeF h mv ls s ((i', h', g') ::
    @List.nil (den SeenT)))) (beqB (safeF (addW IntKind.i64 h b) mv ls s ((i', addW IntKind.i64 h' b, g') :: @List.nil (den SeenT))) (safeF h mv ls s ((i', h', g') ::
    @List.nil (den SeenT)))) (eqL (beqB (safeF (addW IntKind.i64 h b) mv ls s ((i', addW IntKind.i64 h' b, g') :: @List.nil (den SeenT))) (safeF h mv ls s ((i', h',
    g') :: @List.nil (den SeenT)))) (beqB (safeF (addW IntKind.i64 h b) mv ls s ((i', addW IntKind.i64 h' b, g') :: @List.nil (den SeenT))) (safeF h mv ls s ((i', h',
    g') :: @List.nil (den SeenT)))) (eqL (beqB (safeF (addW IntKind.i64 h b) mv ls s ((i', addW IntKind.i64 h' b, g') :: @List.nil (den SeenT))) (safeF h mv ls s ((i',
    h', g') :: @List.nil (den SeenT)))) false (eqL (eqB (senseF i (addW IntKind.i64 h b) i' (addW IntKind.i64 h' b) al) (senseF i h i' h' al)) (eqB (senseF i (addW IntKind.i64
    h b) i' (addW IntKind.i64 h' b) al) (senseF i h i' h' al)) (eqL (eqB (senseF i (addW IntKind.i64 h b) i' (addW IntKind.i64 h' b) al) (senseF i h i' h' al)) (eqB
    (senseF i (addW IntKind.i64 h b) i' (addW IntKind.i64 h' b) al) (senseF i h i' h' al)) (eqL (eqB (gapF (addW IntKind.i64 h b) (addW IntKind.i64 h' b) g' s) (gapF
    h h' g' s)) (eqB (gapF (addW IntKind.i64 h b) (addW IntKind.i64 h' b) g' s) (gapF h h' g' s)) (eqL (eqB (gapF (addW IntKind.i64 h b) (addW IntKind.i64 h' b) g' s)
    (gapF h h' g' s)) (eqB (gapF (addW IntKind.i64 h b) (addW IntKind.i64 h' b) g' s) (gapF h h' g' s)) (eqL (beqB (safeF (addW IntKind.i64 h b) mv ls s ((i', addW IntKind.i64
    h' b, g') :: @List.nil (den SeenT))) (safeF h mv ls s ((i', h', g') :: @List.nil (den SeenT)))) (beqB (safeF (addW IntKind.i64 h b) mv ls s ((i', addW IntKind.i64
    h' b, g') :: @List.nil (den SeenT))) (safeF h mv ls s ((i', h', g') :: @List.nil (den SeenT)))) (eqL (beqB (safeF (addW IntKind.i64 h b) mv ls s ((i', addW IntKind.i64
    h' b, g') :: @List.nil (den SeenT))) (safeF h mv ls s ((i', h', g') :: @List.nil (den SeenT)))) (beqB (safeF (addW IntKind.i64 h b) mv ls s ((i', addW IntKind.i64
    h' b, g') :: @List.nil (den SeenT))) (safeF h mv ls s ((i', h', g') :: @List.nil (den SeenT)))) (need (eqT false false) (eqL (eqB (senseF i (addW IntKind.i64 h b)
    i' (addW IntKind.i64 h' b) al) (senseF i h i' h' al)) (eqB (senseF i (addW IntKind.i64 h b) i' (addW IntKind.i64 h' b) al) (senseF i h i' h' al)) (eqL (eqB (senseF
    i (addW IntKind.i64 h b) i' (addW IntKind.i64 h' b) al) (senseF i h i' h' al)) (eqB (senseF i (addW IntKind.i64 h b) i' (addW IntKind.i64 h' b) al) (senseF i h i'
    h' al)) (eqL (eqB (gapF (addW IntKind.i64 h b) (addW IntKind.i64 h' b) g' s) (gapF h h' g' s)) (eqB (gapF (addW IntKind.i64 h b) (addW IntKind.i64 h' b) g' s) (gapF
    h h' g' s)) (eqL (eqB (gapF (addW IntKind.i64 h b) (addW IntKind.i64 h' b) g' s) (gapF h h' g' s)) (eqB (gapF (addW IntKind.i64 h b) (addW IntKind.i64 h' b) g' s)
    (gapF h h' g' s)) (eqL (beqB (safeF (addW IntKind.i64 h b) mv ls s ((i', addW IntKind.i64 h' b, g') :: @List.nil (den SeenT))) (safeF h mv ls s ((i', h', g') ::
    @List.nil (den SeenT)))) (beqB (safeF (addW IntKind.i64 h b) mv ls s ((i', addW IntKind.i64 h' b, g') :: @List.nil (den SeenT))) (safeF h mv ls s ((i', h', g') ::
    @List.nil (den SeenT)))) (eqL (beqB (safeF (addW IntKind.i64 h b) mv ls s ((i', addW IntKind.i64 h' b, g') :: @List.nil (den SeenT))) (safeF h mv ls s ((i', h',
    g') :: @List.nil (den SeenT)))) (beqB (safeF (addW IntKind.i64 h b) mv ls s ((i', addW IntKind.i64 h' b, g') :: @List.nil (den SeenT))) (safeF h mv ls s ((i', h',
    g') :: @List.nil (den SeenT)))) (need (eqT false false) (eqL false false (AOut.ret (AV.bool false) = AOut.ret (AV.bool true))))))))))))))))))))))))))))))))))))))))))))))))))))))))))))
    (eqL (eqB (senseF i (addW IntKind.i64 h b) i' (addW IntKind.i64 h' b) al) (senseF i h i' h' al)) (eqB (senseF i (addW IntKind.i64 h b) i' (addW IntKind.i64 h' b)
    al) (senseF i h i' h' al)) (eqL (eqB (senseF i (addW IntKind.i64 h b) i' (addW IntKind.i64 h' b) al) (senseF i h i' h' al)) (eqB (senseF i (addW IntKind.i64 h b)
    i' (addW IntKind.i64 h' b) al) (senseF i h i' h' al)) (eqL (eqB (gapF (addW IntKind.i64 h b) (addW IntKind.i64 h' b) g' s) (gapF h h' g' s)) (eqB (gapF (addW IntKind.i64
    h b) (addW IntKind.i64 h' b) g' s) (gapF h h' g' s)) (eqL (eqB (gapF (addW IntKind.i64 h b) (addW IntKind.i64 h' b) g' s) (gapF h h' g' s)) (eqB (gapF (addW IntKind.i64
    h b) (addW IntKind.i64 h' b) g' s) (gapF h h' g' s)) (eqI i i (eqI (addW IntKind.i64 h b) (addW IntKind.i64 h b) (eqI g g (eqI mv mv (eqI ls ls (eqI s s (eqI i i
    (eqI h h (eqI g g (eqI mv mv (eqI ls ls (eqI s s (need (lenOK (lenI ((i', addW IntKind.i64 h' b, g') :: @List.nil (den SeenT)))) (need (rI (addW IntKind.i64 h b))
    (need (rI mv) (need (rI ls) (need (rI s) (need (rIs ((i', addW IntKind.i64 h' b, g') :: @List.nil (den SeenT))) (eqL (eqB (senseF i (addW IntKind.i64 h b) i' (addW
    IntKind.i64 h' b) al) (senseF i h i' h' al)) (eqB (senseF i (addW IntKind.i64 h b) i' (addW IntKind.i64 h' b) al) (senseF i h i' h' al)) (eqL (eqB (senseF i (addW
    IntKind.i64 h b) i' (addW IntKind.i64 h' b) al) (senseF i h i' h' al)) (eqB (senseF i (addW IntKind.i64 h b) i' (addW IntKind.i64 h' b) al) (senseF i h i' h' al))
    (eqL (eqB (gapF (addW IntKind.i64 h b) (addW IntKind.i64 h' b) g' s) (gapF h h' g' s)) (eqB (gapF (addW IntKind.i64 h b) (addW IntKind.i64 h' b) g' s) (gapF h h'
    g' s)) (eqL (eqB (gapF (addW IntKind.i64 h b) (addW IntKind.i64 h' b) g' s) (gapF h h' g' s)) (eqB (gapF (addW IntKind.i64 h b) (addW IntKind.i64 h' b) g' s) (gapF
    h h' g' s)) (eqI i i (eqI h h (eqI g g (eqI mv mv (eqI ls ls (eqI s s (need (lenOK (lenI ((i', h', g') :: @List.nil (den SeenT)))) (need (rI h) (need (rI mv) (need
    (rI ls) (need (rI s) (need (rIs ((i', h', g') :: @List.nil (den SeenT))) (ifB (beqB (safeF (addW IntKind.i64 h b) mv ls s ((i', addW IntKind.i64 h' b, g') :: @List.nil
    (den SeenT))) (safeF h mv ls s ((i', h', g') :: @List.nil (den SeenT)))) (eqL (eqB (senseF i (addW IntKind.i64 h b) i' (addW IntKind.i64 h' b) al) (senseF i h i'
    h' al)) (eqB (senseF i (addW IntKind.i64 h b) i' (addW IntKind.i64 h' b) al) (senseF i h i' h' al)) (eqL (eqB (senseF i (addW IntKind.i64 h b) i' (addW IntKind.i64
    h' b) al) (senseF i h i' h' al)) (eqB (senseF i (addW IntKind.i64 h b) i' (addW IntKind.i64 h' b) al) (senseF i h i' h' al)) (eqL (eqB (gapF (addW IntKind.i64 h
    b) (addW IntKind.i64 h' b) g' s) (gapF h h' g' s)) (eqB (gapF (addW IntKind.i64 h b) (addW IntKind.i64 h' b) g' s) (gapF h h' g' s)) (eqL (eqB (gapF (addW IntKind.i64
    h b) (addW IntKind.i64 h' b) g' s) (gapF h h' g' s)) (eqB (gapF (addW IntKind.i64 h b) (addW IntKind.i64 h' b) g' s) (gapF h h' g' s)) (eqL (beqB (safeF (addW IntKind.i64
    h b) mv ls s ((i', addW IntKind.i64 h' b, g') :: @List.nil (den SeenT))) (safeF h mv ls s ((i', h', g') :: @List.nil (den SeenT)))) (beqB (safeF (addW IntKind.i64
    h b) mv ls s ((i', addW IntKind.i64 h' b, g') :: @List.nil (den SeenT))) (safeF h mv ls s ((i', h', g') :: @List.nil (den SeenT)))) (eqL (beqB (safeF (addW IntKind.i64
    h b) mv ls s ((i', addW IntKind.i64 h' b, g') :: @List.nil (den SeenT))) (safeF h mv ls s ((i', h', g') :: @List.nil (den SeenT)))) (beqB (safeF (addW IntKind.i64
    h b) mv ls s ((i', addW IntKind.i64 h' b, g') :: @List.nil (den SeenT))) (safeF h mv ls s ((i', h', g') :: @List.nil (den SeenT)))) (eqL (beqB (safeF (addW IntKind.i64
    h b) mv ls s ((i', addW IntKind.i64 h' b, g') :: @List.nil (den SeenT))) (safeF h mv ls s ((i', h', g') :: @List.nil (den SeenT)))) true (eqI i i (eqI h h (eqI g
    g (eqI i' i' (eqI h' h' (eqI g' g' (eqI s s (eqI h' h' (eqI 0 0 (eqI h' h' (eqI 0 0 (eqI h h (eqI g' g' (eqI 0 0 (eqI h h (eqI g' g' (eqI s s (need (rI h) (need
    (rI h') (need (rI g') (need (rI s) (eqL (eqB (senseF i (addW IntKind.i64 h b) i' (addW IntKind.i64 h' b) al) (senseF i h i' h' al)) (eqB (senseF i (addW IntKind.i64
    h b) i' (addW IntKind.i64 h' b) al) (senseF i h i' h' al)) (eqL (eqB (senseF i (addW IntKind.i64 h b) i' (addW IntKind.i64 h' b) al) (senseF i h i' h' al)) (eqB
    (senseF i (addW IntKind.i64 h b) i' (addW IntKind.i64 h' b) al) (senseF i h i' h' al)) (eqL (eqB (gapF (addW IntKind.i64 h b) (addW IntKind.i64 h' b) g' s) (gapF
    h h' g' s)) (eqB (gapF (addW IntKind.i64 h b) (addW IntKind.i64 h' b) g' s) (gapF h h' g' s)) (eqL (eqB (gapF (addW IntKind.i64 h b) (addW IntKind.i64 h' b) g' s)
    (gapF h h' g' s)) (eqB (gapF (addW IntKind.i64 h b) (addW IntKind.i64 h' b) g' s) (gapF h h' g' s)) (eqL (beqB (safeF (addW IntKind.i64 h b) mv ls s ((i', addW IntKind.i64
    h' b, g') :: @List.nil (den SeenT))) (safeF h mv ls s ((i', h', g') :: @List.nil (den SeenT)))) (beqB (safeF (addW IntKind.i64 h b) mv ls s ((i', addW IntKind.i64
    h' b, g') :: @List.nil (den SeenT))) (safeF h mv ls s ((i', h', g') :: @List.nil (den SeenT)))) (eqL (beqB (safeF (addW IntKind.i64 h b) mv ls s ((i', addW IntKind.i64
    h' b, g') :: @List.nil (den SeenT))) (safeF h mv ls s ((i', h', g') :: @List.nil (den SeenT)))) (beqB (safeF (addW IntKind.i64 h b) mv ls s ((i', addW IntKind.i64
    h' b, g') :: @List.nil (den SeenT))) (safeF h mv ls s ((i', h', g') :: @List.nil (den SeenT)))) (eqI h' h' (eqI 0 0 (eqI h' h' (eqI 0 0 (eqI h h (eqI g' g' (eqI
    0 0 (eqI h h (eqI g' g' (eqI s s (need (rI h') (need (rI h) (need (rI g') (need (rI s) (eqL (eqB (senseF i (addW IntKind.i64 h b) i' (addW IntKind.i64 h' b) al)
    (senseF i h i' h' al)) (eqB (senseF i (addW IntKind.i64 h b) i' (addW IntKind.i64 h' b) al) (senseF i h i' h' al)) (eqL (eqB (senseF i (addW IntKind.i64 h b) i'
    (addW IntKind.i64 h' b) al) (senseF i h i' h' al)) (eqB (senseF i (addW IntKind.i64 h b) i' (addW IntKind.i64 h' b) al) (senseF i h i' h' al)) (eqL (eqB (gapF (addW
    IntKind.i64 h b) (addW IntKind.i64 h' b) g' s) (gapF h h' g' s)) (eqB (gapF (addW IntKind.i64 h b) (addW IntKind.i64 h' b) g' s) (gapF h h' g' s)) (eqL (eqB (gapF
    (addW IntKind.i64 h b) (addW IntKind.i64 h' b) g' s) (gapF h h' g' s)) (eqB (gapF (addW IntKind.i64 h b) (addW IntKind.i64 h' b) g' s) (gapF h h' g' s)) (eqL (beqB
    (safeF (addW IntKind.i64 h b) mv ls s ((i', addW IntKind.i64 h' b, g') :: @List.nil (den SeenT))) (safeF h mv ls s ((i', h', g') :: @List.nil (den SeenT)))) (beqB
    (safeF (addW IntKind.i64 h b) mv ls s ((i', addW IntKind.i64 h' b, g') :: @List.nil (den SeenT))) (safeF h mv ls s ((i', h', g') :: @List.nil (den SeenT)))) (eqL
    (beqB (safeF (addW IntKind.i64 h b) mv ls s ((i', addW IntKind.i64 h' b, g') :: @List.nil (den SeenT))) (safeF h mv ls s ((i', h', g') :: @List.nil (den SeenT))))
    (beqB (safeF (addW IntKind.i64 h b) mv ls s ((i', addW IntKind.i64 h' b, g') :: @List.nil (den SeenT))) (safeF h mv ls s ((i', h', g') :: @List.nil (den SeenT))))
    (eqI h' h' (eqI h h (eqI g' g' (eqL (eqB (gapF h h' g' s) (gapF h' h g' s)) (eqB (gapF h h' g' s) (gapF h' h g' s)) (eqL (eqB (gapF h h' g' s) (gapF h' h g' s))
    (eqB (gapF h h' g' s) (gapF h' h g' s)) (AOut.ret (AV.bool (eqB (gapF h h' g' s) (gapF h' h g' s))) = AOut.ret (AV.bool true)))))))))))))))))))))))))))))))))))))))))))))))))))))))))))))
    (eqL (eqB (senseF i (addW IntKind.i64 h b) i' (addW IntKind.i64 h' b) al) (senseF i h i' h' al)) (eqB (senseF i (addW IntKind.i64 h b) i' (addW IntKind.i64 h' b)
    al) (senseF i h i' h' al)) (eqL (eqB (senseF i (addW IntKind.i64 h b) i' (addW IntKind.i64 h' b) al) (senseF i h i' h' al)) (eqB (senseF i (addW IntKind.i64 h b)
    i' (addW IntKind.i64 h' b) al) (senseF i h i' h' al)) (eqL (eqB (gapF (addW IntKind.i64 h b) (addW IntKind.i64 h' b) g' s) (gapF h h' g' s)) (eqB (gapF (addW IntKind.i64
    h b) (addW IntKind.i64 h' b) g' s) (gapF h h' g' s)) (eqL (eqB (gapF (addW IntKind.i64 h b) (addW IntKind.i64 h' b) g' s) (gapF h h' g' s)) (eqB (gapF (addW IntKind.i64
    h b) (addW IntKind.i64 h' b) g' s) (gapF h h' g' s)) (eqL (beqB (safeF (addW IntKind.i64 h b) mv ls s ((i', addW IntKind.i64 h' b, g') :: @List.nil (den SeenT)))
    (safeF h mv ls s ((i', h', g') :: @List.nil (den SeenT)))) (beqB (safeF (addW IntKind.i64 h b) mv ls s ((i', addW IntKind.i64 h' b, g') :: @List.nil (den SeenT)))
    (safeF h mv ls s ((i', h', g') :: @List.nil (den SeenT)))) (eqL (beqB (safeF (addW IntKind.i64 h b) mv ls s ((i', addW IntKind.i64 h' b, g') :: @List.nil (den SeenT)))
    (safeF h mv ls s ((i', h', g') :: @List.nil (den SeenT)))) (beqB (safeF (addW IntKind.i64 h b) mv ls s ((i', addW IntKind.i64 h' b, g') :: @List.nil (den SeenT)))
    (safeF h mv ls s ((i', h', g') :: @List.nil (den SeenT)))) (eqL (beqB (safeF (addW IntKind.i64 h b) mv ls s ((i', addW IntKind.i64 h' b, g') :: @List.nil (den SeenT)))
    (safeF h mv ls s ((i', h', g') :: @List.nil (den SeenT)))) false (eqL (eqB (senseF i (addW IntKind.i64 h b) i' (addW IntKind.i64 h' b) al) (senseF i h i' h' al))
    (eqB (senseF i (addW IntKind.i64 h b) i' (addW IntKind.i64 h' b) al) (senseF i h i' h' al)) (eqL (eqB (senseF i (addW IntKind.i64 h b) i' (addW IntKind.i64 h' b)
    al) (senseF i h i' h' al)) (eqB (senseF i (addW IntKind.i64 h b) i' (addW IntKind.i64 h' b) al) (senseF i h i' h' al)) (eqL (eqB (gapF (addW IntKind.i64 h b) (addW
    IntKind.i64 h' b) g' s) (gapF h h' g' s)) (eqB (gapF (addW IntKind.i64 h b) (addW IntKind.i64 h' b) g' s) (gapF h h' g' s)) (eqL (eqB (gapF (addW IntKind.i64 h b)
    (addW IntKind.i64 h' b) g' s) (gapF h h' g' s)) (eqB (gapF (addW IntKind.i64 h b) (addW IntKind.i64 h' b) g' s) (gapF h h' g' s)) (eqL (beqB (safeF (addW IntKind.i64
    h b) mv ls s ((i', addW IntKind.i64 h' b, g') :: @List.nil (den SeenT))) (safeF h mv ls s ((i', h', g') :: @List.nil (den SeenT)))) (beqB (safeF (addW IntKind.i64
    h b) mv ls s ((i', addW IntKind.i64 h' b, g') :: @List.nil (den SeenT))) (safeF h mv ls s ((i', h', g') :: @List.nil (den SeenT)))) (eqL (beqB (safeF (addW IntKind.i64
    h b) mv ls s ((i', addW IntKind.i64 h' b, g') :: @List.nil (den SeenT))) (safeF h mv ls s ((i', h', g') :: @List.nil (den SeenT)))) (beqB (safeF (addW IntKind.i64
    h b) mv ls s ((i', addW IntKind.i64 h' b, g') :: @List.nil (den SeenT))) (safeF h mv ls s ((i', h', g') :: @List.nil (den SeenT)))) (need (eqT false false) (eqL
    (eqB (senseF i (addW IntKind.i64 h b) i' (addW IntKind.i64 h' b) al) (senseF i h i' h' al)) (eqB (senseF i (addW IntKind.i64 h b) i' (addW IntKind.i64 h' b) al)
    (senseF i h i' h' al)) (eqL (eqB (senseF i (addW IntKind.i64 h b) i' (addW IntKind.i64 h' b) al) (senseF i h i' h' al)) (eqB (senseF i (addW IntKind.i64 h b) i'
    (addW IntKind.i64 h' b) al) (senseF i h i' h' al)) (eqL (eqB (gapF (addW IntKind.i64 h b) (addW IntKind.i64 h' b) g' s) (gapF h h' g' s)) (eqB (gapF (addW IntKind.i64
    h b) (addW IntKind.i64 h' b) g' s) (gapF h h' g' s)) (eqL (eqB (gapF (addW IntKind.i64 h b) (addW IntKind.i64 h' b) g' s) (gapF h h' g' s)) (eqB (gapF (addW IntKind.i64
    h b) (addW IntKind.i64 h' b) g' s) (gapF h h' g' s)) (eqL (beqB (safeF (addW IntKind.i64 h b) mv ls s ((i', addW IntKind.i64 h' b, g') :: @List.nil (den SeenT)))
    (safeF h mv ls s ((i', h', g') :: @List.nil (den SeenT)))) (beqB (safeF (addW IntKind.i64 h b) mv ls s ((i', addW IntKind.i64 h' b, g') :: @List.nil (den SeenT)))
    (safeF h mv ls s ((i', h', g') :: @List.nil (den SeenT)))) (eqL (beqB (safeF (addW IntKind.i64 h b) mv ls s ((i', addW IntKind.i64 h' b, g') :: @List.nil (den SeenT)))
    (safeF h mv ls s ((i', h', g') :: @List.nil (den SeenT)))) (beqB (safeF (addW IntKind.i64 h b) mv ls s ((i', addW IntKind.i64 h' b, g') :: @List.nil (den SeenT)))
    (safeF h mv ls s ((i', h', g') :: @List.nil (den SeenT)))) (need (eqT false false) (eqL false false (AOut.ret (AV.bool false) = AOut.ret (AV.bool true)))))))))))))))))))))))))))))))))))))))))))))))))))))))))))))))))))))))))))))))))))
    (eqL (eqB (senseF i (addW IntKind.i64 h b) i' (addW IntKind.i64 h' b) al) (senseF i h i' h' al)) (eqB (senseF i (addW IntKind.i64 h b) i' (addW IntKind.i64 h' b)
    al) (senseF i h i' h' al)) (eqL (eqB (senseF i (addW IntKind.i64 h b) i' (addW IntKind.i64 h' b) al) (senseF i h i' h' al)) (eqB (senseF i (addW IntKind.i64 h b)
    i' (addW IntKind.i64 h' b) al) (senseF i h i' h' al)) (eqL (eqB (gapF (addW IntKind.i64 h b) (addW IntKind.i64 h' b) g' s) (gapF h h' g' s)) (eqB (gapF (addW IntKind.i64
    h b) (addW IntKind.i64 h' b) g' s) (gapF h h' g' s)) (eqL (eqB (gapF (addW IntKind.i64 h b) (addW IntKind.i64 h' b) g' s) (gapF h h' g' s)) (eqB (gapF (addW IntKind.i64
    h b) (addW IntKind.i64 h' b) g' s) (gapF h h' g' s)) (eqI i i (eqI (addW IntKind.i64 h b) (addW IntKind.i64 h b) (eqI g g (eqI mv mv (eqI ls ls (eqI s s (eqI i'
    i' (eqI (addW IntKind.i64 h' b) (addW IntKind.i64 h' b) (eqI g' g' (eqI i i (eqI h h (eqI g g (eqI mv mv (eqI ls ls (eqI s s (eqL (eqB (senseF i (addW IntKind.i64
    h b) i' (addW IntKind.i64 h' b) al) (senseF i h i' h' al)) (eqB (senseF i (addW IntKind.i64 h b) i' (addW IntKind.i64 h' b) al) (senseF i h i' h' al)) (eqL (eqB
    (senseF i (addW IntKind.i64 h b) i' (addW IntKind.i64 h' b) al) (senseF i h i' h' al)) (eqB (senseF i (addW IntKind.i64 h b) i' (addW IntKind.i64 h' b) al) (senseF
    i h i' h' al)) (eqL (eqB (gapF (addW IntKind.i64 h b) (addW IntKind.i64 h' b) g' s) (gapF h h' g' s)) (eqB (gapF (addW IntKind.i64 h b) (addW IntKind.i64 h' b) g'
    s) (gapF h h' g' s)) (eqL (eqB (gapF (addW IntKind.i64 h b) (addW IntKind.i64 h' b) g' s) (gapF h h' g' s)) (eqB (gapF (addW IntKind.i64 h b) (addW IntKind.i64 h'
    b) g' s) (gapF h h' g' s)) (eqI i i (eqI (addW IntKind.i64 h b) (addW IntKind.i64 h b) (eqI g g (eqI mv mv (eqI ls ls (eqI s s (eqI i i (eqI h h (eqI g g (eqI mv
    mv (eqI ls ls (eqI s s (need (lenOK (lenI ((i', addW IntKind.i64 h' b, g') :: @List.nil (den SeenT)))) (need (rI (addW IntKind.i64 h b)) (need (rI mv) (need (rI
    ls) (need (rI s) (need (rIs ((i', addW IntKind.i64 h' b, g') :: @List.nil (den SeenT))) (eqL (eqB (senseF i (addW IntKind.i64 h b) i' (addW IntKind.i64 h' b) al)
    (senseF i h i' h' al)) (eqB (senseF i (addW IntKind.i64 h b) i' (addW IntKind.i64 h' b) al) (senseF i h i' h' al)) (eqL (eqB (senseF i (addW IntKind.i64 h b) i'
    (addW IntKind.i64 h' b) al) (senseF i h i' h' al)) (eqB (senseF i (addW IntKind.i64 h b) i' (addW IntKind.i64 h' b) al) (senseF i h i' h' al)) (eqL (eqB (gapF (addW
    IntKind.i64 h b) (addW IntKind.i64 h' b) g' s) (gapF h h' g' s)) (eqB (gapF (addW IntKind.i64 h b) (addW IntKind.i64 h' b) g' s) (gapF h h' g' s)) (eqL (eqB (gapF
    (addW IntKind.i64 h b) (addW IntKind.i64 h' b) g' s) (gapF h h' g' s)) (eqB (gapF (addW IntKind.i64 h b) (addW IntKind.i64 h' b) g' s) (gapF h h' g' s)) (eqI i i
    (eqI h h (eqI g g (eqI mv mv (eqI ls ls (eqI s s (need (lenOK (lenI ((i', h', g') :: @List.nil (den SeenT)))) (need (rI h) (need (rI mv) (need (rI ls) (need (rI
    s) (need (rIs ((i', h', g') :: @List.nil (den SeenT))) (ifB (beqB (safeF (addW IntKind.i64 h b) mv ls s ((i', addW IntKind.i64 h' b, g') :: @List.nil (den SeenT)))
    (safeF h mv ls s ((i', h', g') :: @List.nil (den SeenT)))) (eqL (eqB (senseF i (addW IntKind.i64 h b) i' (addW IntKind.i64 h' b) al) (senseF i h i' h' al)) (eqB
    (senseF i (addW IntKind.i64 h b) i' (addW IntKind.i64 h' b) al) (senseF i h i' h' al)) (eqL (eqB (senseF i (addW IntKind.i64 h b) i' (addW IntKind.i64 h' b) al)
    (senseF i h i' h' al)) (eqB (senseF i (addW IntKind.i64 h b) i' (addW IntKind.i64 h' b) al) (senseF i h i' h' al)) (eqL (eqB (gapF (addW IntKind.i64 h b) (addW IntKind.i64
    h' b) g' s) (gapF h h' g' s)) (eqB (gapF (addW IntKind.i64 h b) (addW IntKind.i64 h' b) g' s) (gapF h h' g' s)) (eqL (eqB (gapF (addW IntKind.i64 h b) (addW IntKind.i64
    h' b) g' s) (gapF h h' g' s)) (eqB (gapF (addW IntKind.i64 h b) (addW IntKind.i64 h' b) g' s) (gapF h h' g' s)) (eqL (beqB (safeF (addW IntKind.i64 h b) mv ls s
    ((i', addW IntKind.i64 h' b, g') :: @List.nil (den SeenT))) (safeF h mv ls s ((i', h', g') :: @List.nil (den SeenT)))) (beqB (safeF (addW IntKind.i64 h b) mv ls
    s ((i', addW IntKind.i64 h' b, g') :: @List.nil (den SeenT))) (safeF h mv ls s ((i', h', g') :: @List.nil (den SeenT)))) (eqL (beqB (safeF (addW IntKind.i64 h b)
    mv ls s ((i', addW IntKind.i64 h' b, g') :: @List.nil (den SeenT))) (safeF h mv ls s ((i', h', g') :: @List.nil (den SeenT)))) (beqB (safeF (addW IntKind.i64 h b)
    mv ls s ((i', addW IntKind.i64 h' b, g') :: @List.nil (den SeenT))) (safeF h mv ls s ((i', h', g') :: @List.nil (den SeenT)))) (eqL (beqB (safeF (addW IntKind.i64
    h b) mv ls s ((i', addW IntKind.i64 h' b, g') :: @List.nil (den SeenT))) (safeF h mv ls s ((i', h', g') :: @List.nil (den SeenT)))) true (eqI i i (eqI h h (eqI g
    g (eqI i' i' (eqI h' h' (eqI g' g' (eqI s s (eqI h' h' (eqI 0 0 (eqI h' h' (eqI 0 0 (eqI h h (eqI g' g' (eqI 0 0 (eqI h h (eqI g' g' (eqI s s (need (rI h) (need
    (rI h') (need (rI g') (need (rI s) (eqL (eqB (senseF i (addW IntKind.i64 h b) i' (addW IntKind.i64 h' b) al) (senseF i h i' h' al)) (eqB (senseF i (addW IntKind.i64
    h b) i' (addW IntKind.i64 h' b) al) (senseF i h i' h' al)) (eqL (eqB (senseF i (addW IntKind.i64 h b) i' (addW IntKind.i64 h' b) al) (senseF i h i' h' al)) (eqB
    (senseF i (addW IntKind.i64 h b) i' (addW IntKind.i64 h' b) al) (senseF i h i' h' al)) (eqL (eqB (gapF (addW IntKind.i64 h b) (addW IntKind.i64 h' b) g' s) (gapF
    h h' g' s)) (eqB (gapF (addW IntKind.i64 h b) (addW IntKind.i64 h' b) g' s) (gapF h h' g' s)) (eqL (eqB (gapF (addW IntKind.i64 h b) (addW IntKind.i64 h' b) g' s)
    (gapF h h' g' s)) (eqB (gapF (addW IntKind.i64 h b) (addW IntKind.i64 h' b) g' s) (gapF h h' g' s)) (eqL (beqB (safeF (addW IntKind.i64 h b) mv ls s ((i', addW IntKind.i64
    h' b, g') :: @List.nil (den SeenT))) (safeF h mv ls s ((i', h', g') :: @List.nil (den SeenT)))) (beqB (safeF (addW IntKind.i64 h b) mv ls s ((i', addW IntKind.i64
    h' b, g') :: @List.nil (den SeenT))) (safeF h mv ls s ((i', h', g') :: @List.nil (den SeenT)))) (eqL (beqB (safeF (addW IntKind.i64 h b) mv ls s ((i', addW IntKind.i64
    h' b, g') :: @List.nil (den SeenT))) (safeF h mv ls s ((i', h', g') :: @List.nil (den SeenT)))) (beqB (safeF (addW IntKind.i64 h b) mv ls s ((i', addW IntKind.i64
    h' b, g') :: @List.nil (den SeenT))) (safeF h mv ls s ((i', h', g') :: @List.nil (den SeenT)))) (eqI h' h' (eqI 0 0 (eqI h' h' (eqI 0 0 (eqI h h (eqI g' g' (eqI
    0 0 (eqI h h (eqI g' g' (eqI s s (need (rI h') (need (rI h) (need (rI g') (need (rI s) (eqL (eqB (senseF i (addW IntKind.i64 h b) i' (addW IntKind.i64 h' b) al)
    (senseF i h i' h' al)) (eqB (senseF i (addW IntKind.i64 h b) i' (addW IntKind.i64 h' b) al) (senseF i h i' h' al)) (eqL (eqB (senseF i (addW IntKind.i64 h b) i'
    (addW IntKind.i64 h' b) al) (senseF i h i' h' al)) (eqB (senseF i (addW IntKind.i64 h b) i' (addW IntKind.i64 h' b) al) (senseF i h i' h' al)) (eqL (eqB (gapF (addW
    IntKind.i64 h b) (addW IntKind.i64 h' b) g' s) (gapF h h' g' s)) (eqB (gapF (addW IntKind.i64 h b) (addW IntKind.i64 h' b) g' s) (gapF h h' g' s)) (eqL (eqB (gapF
    (addW IntKind.i64 h b) (addW IntKind.i64 h' b) g' s) (gapF h h' g' s)) (eqB (gapF (addW IntKind.i64 h b) (addW IntKind.i64 h' b) g' s) (gapF h h' g' s)) (eqL (beqB
    (safeF (addW IntKind.i64 h b) mv ls s ((i', addW IntKind.i64 h' b, g') :: @List.nil (den SeenT))) (safeF h mv ls s ((i', h', g') :: @List.nil (den SeenT)))) (beqB
    (safeF (addW IntKind.i64 h b) mv ls s ((i', addW IntKind.i64 h' b, g') :: @List.nil (den SeenT))) (safeF h mv ls s ((i', h', g') :: @List.nil (den SeenT)))) (eqL
    (beqB (safeF (addW IntKind.i64 h b) mv ls s ((i', addW IntKind.i64 h' b, g') :: @List.nil (den SeenT))) (safeF h mv ls s ((i', h', g') :: @List.nil (den SeenT))))
    (beqB (safeF (addW IntKind.i64 h b) mv ls s ((i', addW IntKind.i64 h' b, g') :: @List.nil (den SeenT))) (safeF h mv ls s ((i', h', g') :: @List.nil (den SeenT))))
    (eqI h' h' (eqI h h (eqI g' g' (eqL (eqB (gapF h h' g' s) (gapF h' h g' s)) (eqB (gapF h h' g' s) (gapF h' h g' s)) (eqL (eqB (gapF h h' g' s) (gapF h' h g' s))
    (eqB (gapF h h' g' s) (gapF h' h g' s)) (AOut.ret (AV.bool (eqB (gapF h h' g' s) (gapF h' h g' s))) = AOut.ret (AV.bool true)))))))))))))))))))))))))))))))))))))))))))))))))))))))))))))
    (eqL (eqB (senseF i (addW IntKind.i64 h b) i' (addW IntKind.i64 h' b) al) (senseF i h i' h' al)) (eqB (senseF i (addW IntKind.i64 h b) i' (addW IntKind.i64 h' b)
    al) (senseF i h i' h' al)) (eqL (eqB (senseF i (addW IntKind.i64 h b) i' (addW IntKind.i64 h' b) al) (senseF i h i' h' al)) (eqB (senseF i (addW IntKind.i64 h b)
    i' (addW IntKind.i64 h' b) al) (senseF i h i' h' al)) (eqL (eqB (gapF (addW IntKind.i64 h b) (addW IntKind.i64 h' b) g' s) (gapF h h' g' s)) (eqB (gapF (addW IntKind.i64
    h b) (addW IntKind.i64 h' b) g' s) (gapF h h' g' s)) (eqL (eqB (gapF (addW IntKind.i64 h b) (addW IntKind.i64 h' b) g' s) (gapF h h' g' s)) (eqB (gapF (addW IntKind.i64
    h b) (addW IntKind.i64 h' b) g' s) (gapF h h' g' s)) (eqL (beqB (safeF (addW IntKind.i64 h b) mv ls s ((i', addW IntKind.i64 h' b, g') :: @List.nil (den SeenT)))
    (safeF h mv ls s ((i', h', g') :: @List.nil (den SeenT)))) (beqB (safeF (addW IntKind.i64 h b) mv ls s ((i', addW IntKind.i64 h' b, g') :: @List.nil (den SeenT)))
    (safeF h mv ls s ((i', h', g') :: @List.nil (den SeenT)))) (eqL (beqB (safeF (addW IntKind.i64 h b) mv ls s ((i', addW IntKind.i64 h' b, g') :: @List.nil (den SeenT)))
    (safeF h mv ls s ((i', h', g') :: @List.nil (den SeenT)))) (beqB (safeF (addW IntKind.i64 h b) mv ls s ((i', addW IntKind.i64 h' b, g') :: @List.nil (den SeenT)))
    (safeF h mv ls s ((i', h', g') :: @List.nil (den SeenT)))) (eqL (beqB (safeF (addW IntKind.i64 h b) mv ls s ((i', addW IntKind.i64 h' b, g') :: @List.nil (den SeenT)))
    (safeF h mv ls s ((i', h', g') :: @List.nil (den SeenT)))) false (eqL (eqB (senseF i (addW IntKind.i64 h b) i' (addW IntKind.i64 h' b) al) (senseF i h i' h' al))
    (eqB (senseF i (addW IntKind.i64 h b) i' (addW IntKind.i64 h' b) al) (senseF i h i' h' al)) (eqL (eqB (senseF i (addW IntKind.i64 h b) i' (addW IntKind.i64 h' b)
    al) (senseF i h i' h' al)) (eqB (senseF i (addW IntKind.i64 h b) i' (addW IntKind.i64 h' b) al) (senseF i h i' h' al)) (eqL (eqB (gapF (addW IntKind.i64 h b) (addW
    IntKind.i64 h' b) g' s) (gapF h h' g' s)) (eqB (gapF (addW IntKind.i64 h b) (addW IntKind.i64 h' b) g' s) (gapF h h' g' s)) (eqL (eqB (gapF (addW IntKind.i64 h b)
    (addW IntKind.i64 h' b) g' s) (gapF h h' g' s)) (eqB (gapF (addW IntKind.i64 h b) (addW IntKind.i64 h' b) g' s) (gapF h h' g' s)) (eqL (beqB (safeF (addW IntKind.i64
    h b) mv ls s ((i', addW IntKind.i64 h' b, g') :: @List.nil (den SeenT))) (safeF h mv ls s ((i', h', g') :: @List.nil (den SeenT)))) (beqB (safeF (addW IntKind.i64
    h b) mv ls s ((i', addW IntKind.i64 h' b, g') :: @List.nil (den SeenT))) (safeF h mv ls s ((i', h', g') :: @List.nil (den SeenT)))) (eqL (beqB (safeF (addW IntKind.i64
    h b) mv ls s ((i', addW IntKind.i64 h' b, g') :: @List.nil (den SeenT))) (safeF h mv ls s ((i', h', g') :: @List.nil (den SeenT)))) (beqB (safeF (addW IntKind.i64
    h b) mv ls s ((i', addW IntKind.i64 h' b, g') :: @List.nil (den SeenT))) (safeF h mv ls s ((i', h', g') :: @List.nil (den SeenT)))) (need (eqT false false) (eqL
    (eqB (senseF i (addW IntKind.i64 h b) i' (addW IntKind.i64 h' b) al) (senseF i h i' h' al)) (eqB (senseF i (addW IntKind.i64 h b) i' (addW IntKind.i64 h' b) al)
    (senseF i h i' h' al)) (eqL (eqB (senseF i (addW IntKind.i64 h b) i' (addW IntKind.i64 h' b) al) (senseF i h i' h' al)) (eqB (senseF i (addW IntKind.i64 h b) i'
    (addW IntKind.i64 h' b) al) (senseF i h i' h' al)) (eqL (eqB (gapF (addW IntKind.i64 h b) (addW IntKind.i64 h' b) g' s) (gapF h h' g' s)) (eqB (gapF (addW IntKind.i64
    h b) (addW IntKind.i64 h' b) g' s) (gapF h h' g' s)) (eqL (eqB (gapF (addW IntKind.i64 h b) (addW IntKind.i64 h' b) g' s) (gapF h h' g' s)) (eqB (gapF (addW IntKind.i64
    h b) (addW IntKind.i64 h' b) g' s) (gapF h h' g' s)) (eqL (beqB (safeF (addW IntKind.i64 h b) mv ls s ((i', addW IntKind.i64 h' b, g') :: @List.nil (den SeenT)))
    (safeF h mv ls s ((i', h', g') :: @List.nil (den SeenT)))) (beqB (safeF (addW IntKind.i64 h b) mv ls s ((i', addW IntKind.i64 h' b, g') :: @List.nil (den SeenT)))
    (safeF h mv ls s ((i', h', g') :: @List.nil (den SeenT)))) (eqL (beqB (safeF (addW IntKind.i64 h b) mv ls s ((i', addW IntKind.i64 h' b, g') :: @List.nil (den SeenT)))
    (safeF h mv ls s ((i', h', g') :: @List.nil (den SeenT)))) (beqB (safeF (addW IntKind.i64 h b) mv ls s ((i', addW IntKind.i64 h' b, g') :: @List.nil (den SeenT)))
    (safeF h mv ls s ((i', h', g') :: @List.nil (den SeenT)))) (need (eqT false false) (eqL false false (AOut.ret (AV.bool false) = AOut.ret (AV.bool true))))))))))))))))))))))))))))))))))))))))))))))))))))))))))))))))))))))))))))))))))))))))))))))))))))))))))
    (eqL (eqB (senseF i (addW IntKind.i64 h b) i' (addW IntKind.i64 h' b) al) (senseF i h i' h' al)) (eqB (senseF i (addW IntKind.i64 h b) i' (addW IntKind.i64 h' b)
    al) (senseF i h i' h' al)) (eqL (eqB (senseF i (addW IntKind.i64 h b) i' (addW IntKind.i64 h' b) al) (senseF i h i' h' al)) (eqB (senseF i (addW IntKind.i64 h b)
    i' (addW IntKind.i64 h' b) al) (senseF i h i' h' al)) (eqL (eqB (gapF (addW IntKind.i64 h b) (addW IntKind.i64 h' b) g' s) (gapF h h' g' s)) (eqB (gapF (addW IntKind.i64
    h b) (addW IntKind.i64 h' b) g' s) (gapF h h' g' s)) (eqL (eqB (gapF (addW IntKind.i64 h b) (addW IntKind.i64 h' b) g' s) (gapF h h' g' s)) (eqB (gapF (addW IntKind.i64
    h b) (addW IntKind.i64 h' b) g' s) (gapF h h' g' s)) (eqL (eqB (gapF (addW IntKind.i64 h b) (addW IntKind.i64 h' b) g' s) (gapF h h' g' s)) false (need (eqL (eqB
    (senseF i (addW IntKind.i64 h b) i' (addW IntKind.i64 h' b) al) (senseF i h i' h' al)) (eqB (senseF i (addW IntKind.i64 h b) i' (addW IntKind.i64 h' b) al) (senseF
    i h i' h' al)) (eqL (eqB (senseF i (addW IntKind.i64 h b) i' (addW IntKind.i64 h' b) al) (senseF i h i' h' al)) (eqB (senseF i (addW IntKind.i64 h b) i' (addW IntKind.i64
    h' b) al) (senseF i h i' h' al)) (eqL (eqB (gapF (addW IntKind.i64 h b) (addW IntKind.i64 h' b) g' s) (gapF h h' g' s)) (eqB (gapF (addW IntKind.i64 h b) (addW IntKind.i64
    h' b) g' s) (gapF h h' g' s)) (eqL (eqB (gapF (addW IntKind.i64 h b) (addW IntKind.i64 h' b) g' s) (gapF h h' g' s)) (eqB (gapF (addW IntKind.i64 h b) (addW IntKind.i64
    h' b) g' s) (gapF h h' g' s)) (need (eqL (eqB (senseF i (addW IntKind.i64 h b) i' (addW IntKind.i64 h' b) al) (senseF i h i' h' al)) (eqB (senseF i (addW IntKind.i64
    h b) i' (addW IntKind.i64 h' b) al) (senseF i h i' h' al)) (eqL (eqB (senseF i (addW IntKind.i64 h b) i' (addW IntKind.i64 h' b) al) (senseF i h i' h' al)) (eqB
    (senseF i (addW IntKind.i64 h b) i' (addW IntKind.i64 h' b) al) (senseF i h i' h' al)) (eqL (eqB (gapF (addW IntKind.i64 h b) (addW IntKind.i64 h' b) g' s) (gapF
    h h' g' s)) (eqB (gapF (addW IntKind.i64 h b) (addW IntKind.i64 h' b) g' s) (gapF h h' g' s)) (eqL (eqB (gapF (addW IntKind.i64 h b) (addW IntKind.i64 h' b) g' s)
    (gapF h h' g' s)) (eqB (gapF (addW IntKind.i64 h b) (addW IntKind.i64 h' b) g' s) (gapF h h' g' s)) (eqL (eqB (senseF i (addW IntKind.i64 h b) i' (addW IntKind.i64
    h' b) al) (senseF i h i' h' al)) (eqB (senseF i (addW IntKind.i64 h b) i' (addW IntKind.i64 h' b) al) (senseF i h i' h' al)) (eqL (eqB (senseF i (addW IntKind.i64
    h b) i' (addW IntKind.i64 h' b) al) (senseF i h i' h' al)) (eqB (senseF i (addW IntKind.i64 h b) i' (addW IntKind.i64 h' b) al) (senseF i h i' h' al)) (eqL (eqB
    (gapF (addW IntKind.i64 h b) (addW IntKind.i64 h' b) g' s) (gapF h h' g' s)) (eqB (gapF (addW IntKind.i64 h b) (addW IntKind.i64 h' b) g' s) (gapF h h' g' s)) (eqL
    (eqB (gapF (addW IntKind.i64 h b) (addW IntKind.i64 h' b) g' s) (gapF h h' g' s)) (eqB (gapF (addW IntKind.i64 h b) (addW IntKind.i64 h' b) g' s) (gapF h h' g' s))
    (need (eqT false false) (eqL (eqB (senseF i (addW IntKind.i64 h b) i' (addW IntKind.i64 h' b) al) (senseF i h i' h' al)) (eqB (senseF i (addW IntKind.i64 h b) i'
    (addW IntKind.i64 h' b) al) (senseF i h i' h' al)) (eqL (eqB (senseF i (addW IntKind.i64 h b) i' (addW IntKind.i64 h' b) al) (senseF i h i' h' al)) (eqB (senseF
    i (addW IntKind.i64 h b) i' (addW IntKind.i64 h' b) al) (senseF i h i' h' al)) (eqL (eqB (gapF (addW IntKind.i64 h b) (addW IntKind.i64 h' b) g' s) (gapF h h' g'
    s)) (eqB (gapF (addW IntKind.i64 h b) (addW IntKind.i64 h' b) g' s) (gapF h h' g' s)) (eqL (eqB (gapF (addW IntKind.i64 h b) (addW IntKind.i64 h' b) g' s) (gapF
    h h' g' s)) (eqB (gapF (addW IntKind.i64 h b) (addW IntKind.i64 h' b) g' s) (gapF h h' g' s)) (need (eqT false false) (eqL false false (eqL false false (eqL (eqB
    (senseF i (addW IntKind.i64 h b) i' (addW IntKind.i64 h' b) al) (senseF i h i' h' al)) (eqB (senseF i (addW IntKind.i64 h b) i' (addW IntKind.i64 h' b) al) (senseF
    i h i' h' al)) (eqL (eqB (senseF i (addW IntKind.i64 h b) i' (addW IntKind.i64 h' b) al) (senseF i h i' h' al)) (eqB (senseF i (addW IntKind.i64 h b) i' (addW IntKind.i64
    h' b) al) (senseF i h i' h' al)) (eqL (eqB (gapF (addW IntKind.i64 h b) (addW IntKind.i64 h' b) g' s) (gapF h h' g' s)) (eqB (gapF (addW IntKind.i64 h b) (addW IntKind.i64
    h' b) g' s) (gapF h h' g' s)) (eqL (eqB (gapF (addW IntKind.i64 h b) (addW IntKind.i64 h' b) g' s) (gapF h h' g' s)) (eqB (gapF (addW IntKind.i64 h b) (addW IntKind.i64
    h' b) g' s) (gapF h h' g' s)) (need (eqT false false) (eqL false false (need (eqT false false) (eqL (eqB (senseF i (addW IntKind.i64 h b) i' (addW IntKind.i64 h'
    b) al) (senseF i h i' h' al)) (eqB (senseF i (addW IntKind.i64 h b) i' (addW IntKind.i64 h' b) al) (senseF i h i' h' al)) (eqL (eqB (senseF i (addW IntKind.i64 h
    b) i' (addW IntKind.i64 h' b) al) (senseF i h i' h' al)) (eqB (senseF i (addW IntKind.i64 h b) i' (addW IntKind.i64 h' b) al) (senseF i h i' h' al)) (eqL (eqB (gapF
    (addW IntKind.i64 h b) (addW IntKind.i64 h' b) g' s) (gapF h h' g' s)) (eqB (gapF (addW IntKind.i64 h b) (addW IntKind.i64 h' b) g' s) (gapF h h' g' s)) (eqL (eqB
    (gapF (addW IntKind.i64 h b) (addW IntKind.i64 h' b) g' s) (gapF h h' g' s)) (eqB (gapF (addW IntKind.i64 h b) (addW IntKind.i64 h' b) g' s) (gapF h h' g' s)) (need
    (eqT false false) (eqL false false (need (eqT false false) (eqL false false (AOut.ret (AV.bool false) = AOut.ret (AV.bool true))))))))))))))))))))))))))))))))) (eqL
    (eqB (senseF i (addW IntKind.i64 h b) i' (addW IntKind.i64 h' b) al) (senseF i h i' h' al)) (eqB (senseF i (addW IntKind.i64 h b) i' (addW IntKind.i64 h' b) al)
    (senseF i h i' h' al)) (eqL (eqB (senseF i (addW IntKind.i64 h b) i' (addW IntKind.i64 h' b) al) (senseF i h i' h' al)) (eqB (senseF i (addW IntKind.i64 h b) i'
    (addW IntKind.i64 h' b) al) (senseF i h i' h' al)) (eqL (eqB (gapF (addW IntKind.i64 h b) (addW IntKind.i64 h' b) g' s) (gapF h h' g' s)) (eqB (gapF (addW IntKind.i64
    h b) (addW IntKind.i64 h' b) g' s) (gapF h h' g' s)) (eqL (eqB (gapF (addW IntKind.i64 h b) (addW IntKind.i64 h' b) g' s) (gapF h h' g' s)) (eqB (gapF (addW IntKind.i64
    h b) (addW IntKind.i64 h' b) g' s) (gapF h h' g' s)) (eqL (eqB (senseF i (addW IntKind.i64 h b) i' (addW IntKind.i64 h' b) al) (senseF i h i' h' al)) (eqB (senseF
    i (addW IntKind.i64 h b) i' (addW IntKind.i64 h' b) al) (senseF i h i' h' al)) (eqL (eqB (senseF i (addW IntKind.i64 h b) i' (addW IntKind.i64 h' b) al) (senseF
    i h i' h' al)) (eqB (senseF i (addW IntKind.i64 h b) i' (addW IntKind.i64 h' b) al) (senseF i h i' h' al)) (eqL (eqB (gapF (addW IntKind.i64 h b) (addW IntKind.i64
    h' b) g' s) (gapF h h' g' s)) (eqB (gapF (addW IntKind.i64 h b) (addW IntKind.i64 h' b) g' s) (gapF h h' g' s)) (eqL (eqB (gapF (addW IntKind.i64 h b) (addW IntKind.i64
    h' b) g' s) (gapF h h' g' s)) (eqB (gapF (addW IntKind.i64 h b) (addW IntKind.i64 h' b) g' s) (gapF h h' g' s)) (need (eqT false false) (eqL (eqB (senseF i (addW
    IntKind.i64 h b) i' (addW IntKind.i64 h' b) al) (senseF i h i' h' al)) (eqB (senseF i (addW IntKind.i64 h b) i' (addW IntKind.i64 h' b) al) (senseF i h i' h' al))
    (eqL (eqB (senseF i (addW IntKind.i64 h b) i' (addW IntKind.i64 h' b) al) (senseF i h i' h' al)) (eqB (senseF i (addW IntKind.i64 h b) i' (addW IntKind.i64 h' b)
    al) (senseF i h i' h' al)) (eqL (eqB (gapF (addW IntKind.i64 h b) (addW IntKind.i64 h' b) g' s) (gapF h h' g' s)) (eqB (gapF (addW IntKind.i64 h b) (addW IntKind.i64
    h' b) g' s) (gapF h h' g' s)) (eqL (eqB (gapF (addW IntKind.i64 h b) (addW IntKind.i64 h' b) g' s) (gapF h h' g' s)) (eqB (gapF (addW IntKind.i64 h b) (addW IntKind.i64
    h' b) g' s) (gapF h h' g' s)) (need (eqT false false) (eqL false false (eqL false false (eqL (eqB (senseF i (addW IntKind.i64 h b) i' (addW IntKind.i64 h' b) al)
    (senseF i h i' h' al)) (eqB (senseF i (addW IntKind.i64 h b) i' (addW IntKind.i64 h' b) al) (senseF i h i' h' al)) (eqL (eqB (senseF i (addW IntKind.i64 h b) i'
    (addW IntKind.i64 h' b) al) (senseF i h i' h' al)) (eqB (senseF i (addW IntKind.i64 h b) i' (addW IntKind.i64 h' b) al) (senseF i h i' h' al)) (eqL (eqB (gapF (addW
    IntKind.i64 h b) (addW IntKind.i64 h' b) g' s) (gapF h h' g' s)) (eqB (gapF (addW IntKind.i64 h b) (addW IntKind.i64 h' b) g' s) (gapF h h' g' s)) (eqL (eqB (gapF
    (addW IntKind.i64 h b) (addW IntKind.i64 h' b) g' s) (gapF h h' g' s)) (eqB (gapF (addW IntKind.i64 h b) (addW IntKind.i64 h' b) g' s) (gapF h h' g' s)) (need (eqT
    false false) (eqL false false (need (eqT false false) (eqL (eqB (senseF i (addW IntKind.i64 h b) i' (addW IntKind.i64 h' b) al) (senseF i h i' h' al)) (eqB (senseF
    i (addW IntKind.i64 h b) i' (addW IntKind.i64 h' b) al) (senseF i h i' h' al)) (eqL (eqB (senseF i (addW IntKind.i64 h b) i' (addW IntKind.i64 h' b) al) (senseF
    i h i' h' al)) (eqB (senseF i (addW IntKind.i64 h b) i' (addW IntKind.i64 h' b) al) (senseF i h i' h' al)) (eqL (eqB (gapF (addW IntKind.i64 h b) (addW IntKind.i64
    h' b) g' s) (gapF h h' g' s)) (eqB (gapF (addW IntKind.i64 h b) (addW IntKind.i64 h' b) g' s) (gapF h h' g' s)) (eqL (eqB (gapF (addW IntKind.i64 h b) (addW IntKind.i64
    h' b) g' s) (gapF h h' g' s)) (eqB (gapF (addW IntKind.i64 h b) (addW IntKind.i64 h' b) g' s) (gapF h h' g' s)) (need (eqT false false) (eqL false false (need (eqT
    false false) (eqL false false (AOut.ret (AV.bool false) = AOut.ret (AV.bool true)))))))))))))))))))))))))))))))))))))) (eqL (eqB (senseF i (addW IntKind.i64 h b)
    i' (addW IntKind.i64 h' b) al) (senseF i h i' h' al)) (eqB (senseF i (addW IntKind.i64 h b) i' (addW IntKind.i64 h' b) al) (senseF i h i' h' al)) (eqL (eqB (senseF
    i (addW IntKind.i64 h b) i' (addW IntKind.i64 h' b) al) (senseF i h i' h' al)) (eqB (senseF i (addW IntKind.i64 h b) i' (addW IntKind.i64 h' b) al) (senseF i h i'
    h' al)) (eqL (eqB (gapF (addW IntKind.i64 h b) (addW IntKind.i64 h' b) g' s) (gapF h h' g' s)) (eqB (gapF (addW IntKind.i64 h b) (addW IntKind.i64 h' b) g' s) (gapF
    h h' g' s)) (eqL (eqB (gapF (addW IntKind.i64 h b) (addW IntKind.i64 h' b) g' s) (gapF h h' g' s)) (eqB (gapF (addW IntKind.i64 h b) (addW IntKind.i64 h' b) g' s)
    (gapF h h' g' s)) (eqL (eqB (senseF i (addW IntKind.i64 h b) i' (addW IntKind.i64 h' b) al) (senseF i h i' h' al)) (eqB (senseF i (addW IntKind.i64 h b) i' (addW
    IntKind.i64 h' b) al) (senseF i h i' h' al)) (eqL (eqB (senseF i (addW IntKind.i64 h b) i' (addW IntKind.i64 h' b) al) (senseF i h i' h' al)) (eqB (senseF i (addW
    IntKind.i64 h b) i' (addW IntKind.i64 h' b) al) (senseF i h i' h' al)) (eqL (eqB (gapF (addW IntKind.i64 h b) (addW IntKind.i64 h' b) g' s) (gapF h h' g' s)) (eqB
    (gapF (addW IntKind.i64 h b) (addW IntKind.i64 h' b) g' s) (gapF h h' g' s)) (eqL (eqB (gapF (addW IntKind.i64 h b) (addW IntKind.i64 h' b) g' s) (gapF h h' g' s))
    (eqB (gapF (addW IntKind.i64 h b) (addW IntKind.i64 h' b) g' s) (gapF h h' g' s)) (eqL (eqB (senseF i (addW IntKind.i64 h b) i' (addW IntKind.i64 h' b) al) (senseF
    i h i' h' al)) (eqB (senseF i (addW IntKind.i64 h b) i' (addW IntKind.i64 h' b) al) (senseF i h i' h' al)) (eqL (eqB (senseF i (addW IntKind.i64 h b) i' (addW IntKind.i64
    h' b) al) (senseF i h i' h' al)) (eqB (senseF i (addW IntKind.i64 h b) i' (addW IntKind.i64 h' b) al) (senseF i h i' h' al)) (eqL (eqB (gapF (addW IntKind.i64 h
    b) (addW IntKind.i64 h' b) g' s) (gapF h h' g' s)) (eqB (gapF (addW IntKind.i64 h b) (addW IntKind.i64 h' b) g' s) (gapF h h' g' s)) (eqL (eqB (gapF (addW IntKind.i64
    h b) (addW IntKind.i64 h' b) g' s) (gapF h h' g' s)) (eqB (gapF (addW IntKind.i64 h b) (addW IntKind.i64 h' b) g' s) (gapF h h' g' s)) (need (eqT false false) (eqL
    (eqB (senseF i (addW IntKind.i64 h b) i' (addW IntKind.i64 h' b) al) (senseF i h i' h' al)) (eqB (senseF i (addW IntKind.i64 h b) i' (addW IntKind.i64 h' b) al)
    (senseF i h i' h' al)) (eqL (eqB (senseF i (addW IntKind.i64 h b) i' (addW IntKind.i64 h' b) al) (senseF i h i' h' al)) (eqB (senseF i (addW IntKind.i64 h b) i'
    (addW IntKind.i64 h' b) al) (senseF i h i' h' al)) (eqL (eqB (gapF (addW IntKind.i64 h b) (addW IntKind.i64 h' b) g' s) (gapF h h' g' s)) (eqB (gapF (addW IntKind.i64
    h b) (addW IntKind.i64 h' b) g' s) (gapF h h' g' s)) (eqL (eqB (gapF (addW IntKind.i64 h b) (addW IntKind.i64 h' b) g' s) (gapF h h' g' s)) (eqB (gapF (addW IntKind.i64
    h b) (addW IntKind.i64 h' b) g' s) (gapF h h' g' s)) (need (eqT false false) (eqL false false (eqL false false (eqL (eqB (senseF i (addW IntKind.i64 h b) i' (addW
    IntKind.i64 h' b) al) (senseF i h i' h' al)) (eqB (senseF i (addW IntKind.i64 h b) i' (addW IntKind.i64 h' b) al) (senseF i h i' h' al)) (eqL (eqB (senseF i (addW
    IntKind.i64 h b) i' (addW IntKind.i64 h' b) al) (senseF i h i' h' al)) (eqB (senseF i (addW IntKind.i64 h b) i' (addW IntKind.i64 h' b) al) (senseF i h i' h' al))
    (eqL (eqB (gapF (addW IntKind.i64 h b) (addW IntKind.i64 h' b) g' s) (gapF h h' g' s)) (eqB (gapF (addW IntKind.i64 h b) (addW IntKind.i64 h' b) g' s) (gapF h h'
    g' s)) (eqL (eqB (gapF (addW IntKind.i64 h b) (addW IntKind.i64 h' b) g' s) (gapF h h' g' s)) (eqB (gapF (addW IntKind.i64 h b) (addW IntKind.i64 h' b) g' s) (gapF
    h h' g' s)) (need (eqT false false) (eqL false false (need (eqT false false) (eqL (eqB (senseF i (addW IntKind.i64 h b) i' (addW IntKind.i64 h' b) al) (senseF i
    h i' h' al)) (eqB (senseF i (addW IntKind.i64 h b) i' (addW IntKind.i64 h' b) al) (senseF i h i' h' al)) (eqL (eqB (senseF i (addW IntKind.i64 h b) i' (addW IntKind.i64
    h' b) al) (senseF i h i' h' al)) (eqB (senseF i (addW IntKind.i64 h b) i' (addW IntKind.i64 h' b) al) (senseF i h i' h' al)) (eqL (eqB (gapF (addW IntKind.i64 h
    b) (addW IntKind.i64 h' b) g' s) (gapF h h' g' s)) (eqB (gapF (addW IntKind.i64 h b) (addW IntKind.i64 h' b) g' s) (gapF h h' g' s)) (eqL (eqB (gapF (addW IntKind.i64
    h b) (addW IntKind.i64 h' b) g' s) (gapF h h' g' s)) (eqB (gapF (addW IntKind.i64 h b) (addW IntKind.i64 h' b) g' s) (gapF h h' g' s)) (need (eqT false false) (eqL
    false false (need (eqT false false) (eqL false false (AOut.ret (AV.bool false) = AOut.ret (AV.bool true))))))))))))))))))))))))))))))))))))))))))))))))))))))))))))))))))))))))))))))
    (eqL (eqB (senseF i (addW IntKind.i64 h b) i' (addW IntKind.i64 h' b) al) (senseF i h i' h' al)) (eqB (senseF i (addW IntKind.i64 h b) i' (addW IntKind.i64 h' b)
    al) (senseF i h i' h' al)) (eqL (eqB (senseF i (addW IntKind.i64 h b) i' (addW IntKind.i64 h' b) al) (senseF i h i' h' al)) (eqB (senseF i (addW IntKind.i64 h b)
    i' (addW IntKind.i64 h' b) al) (senseF i h i' h' al)) (eqL (eqB (senseF i (addW IntKind.i64 h b) i' (addW IntKind.i64 h' b) al) (senseF i h i' h' al)) false (eqL
    (eqB (senseF i (addW IntKind.i64 h b) i' (addW IntKind.i64 h' b) al) (senseF i h i' h' al)) (eqB (senseF i (addW IntKind.i64 h b) i' (addW IntKind.i64 h' b) al)
    (senseF i h i' h' al)) (eqL (eqB (senseF i (addW IntKind.i64 h b) i' (addW IntKind.i64 h' b) al) (senseF i h i' h' al)) (eqB (senseF i (addW IntKind.i64 h b) i'
    (addW IntKind.i64 h' b) al) (senseF i h i' h' al)) (need (eqT false false) (eqL (eqB (senseF i (addW IntKind.i64 h b) i' (addW IntKind.i64 h' b) al) (senseF i h
    i' h' al)) (eqB (senseF i (addW IntKind.i64 h b) i' (addW IntKind.i64 h' b) al) (senseF i h i' h' al)) (eqL (eqB (senseF i (addW IntKind.i64 h b) i' (addW IntKind.i64
    h' b) al) (senseF i h i' h' al)) (eqB (senseF i (addW IntKind.i64 h b) i' (addW IntKind.i64 h' b) al) (senseF i h i' h' al)) (need (eqT false false) (eqL false false
    (eqL false false (need (eqL (eqB (senseF i (addW IntKind.i64 h b) i' (addW IntKind.i64 h' b) al) (senseF i h i' h' al)) (eqB (senseF i (addW IntKind.i64 h b) i'
    (addW IntKind.i64 h' b) al) (senseF i h i' h' al)) (eqL (eqB (senseF i (addW IntKind.i64 h b) i' (addW IntKind.i64 h' b) al) (senseF i h i' h' al)) (eqB (senseF
    i (addW IntKind.i64 h b) i' (addW IntKind.i64 h' b) al) (senseF i h i' h' al)) (need (eqT false false) (eqL false false (need (eqL (eqB (senseF i (addW IntKind.i64
    h b) i' (addW IntKind.i64 h' b) al) (senseF i h i' h' al)) (eqB (senseF i (addW IntKind.i64 h b) i' (addW IntKind.i64 h' b) al) (senseF i h i' h' al)) (eqL (eqB
    (senseF i (addW IntKind.i64 h b) i' (addW IntKind.i64 h' b) al) (senseF i h i' h' al)) (eqB (senseF i (addW IntKind.i64 h b) i' (addW IntKind.i64 h' b) al) (senseF
    i h i' h' al)) (need (eqT false false) (eqL false false (eqL (eqB (senseF i (addW IntKind.i64 h b) i' (addW IntKind.i64 h' b) al) (senseF i h i' h' al)) (eqB (senseF
    i (addW IntKind.i64 h b) i' (addW IntKind.i64 h' b) al) (senseF i h i' h' al)) (eqL (eqB (senseF i (addW IntKind.i64 h b) i' (addW IntKind.i64 h' b) al) (senseF
    i h i' h' al)) (eqB (senseF i (addW IntKind.i64 h b) i' (addW IntKind.i64 h' b) al) (senseF i h i' h' al)) (need (eqT false false) (eqL false false (need (eqT false
    false) (eqL (eqB (senseF i (addW IntKind.i64 h b) i' (addW IntKind.i64 h' b) al) (senseF i h i' h' al)) (eqB (senseF i (addW IntKind.i64 h b) i' (addW IntKind.i64
    h' b) al) (senseF i h i' h' al)) (eqL (eqB (senseF i (addW IntKind.i64 h b) i' (addW IntKind.i64 h' b) al) (senseF i h i' h' al)) (eqB (senseF i (addW IntKind.i64
    h b) i' (addW IntKind.i64 h' b) al) (senseF i h i' h' al)) (need (eqT false false) (eqL false false (need (eqT false false) (eqL false false (eqL false false (eqL
    (eqB (senseF i (addW IntKind.i64 h b) i' (addW IntKind.i64 h' b) al) (senseF i h i' h' al)) (eqB (senseF i (addW IntKind.i64 h b) i' (addW IntKind.i64 h' b) al)
    (senseF i h i' h' al)) (eqL (eqB (senseF i (addW IntKind.i64 h b) i' (addW IntKind.i64 h' b) al) (senseF i h i' h' al)) (eqB (senseF i (addW IntKind.i64 h b) i'
    (addW IntKind.i64 h' b) al) (senseF i h i' h' al)) (need (eqT false false) (eqL false false (need (eqT false false) (eqL false false (need (eqT false false) (eqL
    (eqB (senseF i (addW IntKind.i64 h b) i' (addW IntKind.i64 h' b) al) (senseF i h i' h' al)) (eqB (senseF i (addW IntKind.i64 h b) i' (addW IntKind.i64 h' b) al)
    (senseF i h i' h' al)) (eqL (eqB (senseF i (addW IntKind.i64 h b) i' (addW IntKind.i64 h' b) al) (senseF i h i' h' al)) (eqB (senseF i (addW IntKind.i64 h b) i'
    (addW IntKind.i64 h' b) al) (senseF i h i' h' al)) (need (eqT false false) (eqL false false (need (eqT false false) (eqL false false (need (eqT false false) (eqL
    false false (AOut.ret (AV.bool false) = AOut.ret (AV.bool true))))))))))))))))))))))))))))))))) (eqL (eqB (senseF i (addW IntKind.i64 h b) i' (addW IntKind.i64 h'
    b) al) (senseF i h i' h' al)) (eqB (senseF i (addW IntKind.i64 h b) i' (addW IntKind.i64 h' b) al) (senseF i h i' h' al)) (eqL (eqB (senseF i (addW IntKind.i64 h
    b) i' (addW IntKind.i64 h' b) al) (senseF i h i' h' al)) (eqB (senseF i (addW IntKind.i64 h b) i' (addW IntKind.i64 h' b) al) (senseF i h i' h' al)) (need (eqT false
    false) (eqL false false (eqL (eqB (senseF i (addW IntKind.i64 h b) i' (addW IntKind.i64 h' b) al) (senseF i h i' h' al)) (eqB (senseF i (addW IntKind.i64 h b) i'
    (addW IntKind.i64 h' b) al) (senseF i h i' h' al)) (eqL (eqB (senseF i (addW IntKind.i64 h b) i' (addW IntKind.i64 h' b) al) (senseF i h i' h' al)) (eqB (senseF
    i (addW IntKind.i64 h b) i' (addW IntKind.i64 h' b) al) (senseF i h i' h' al)) (need (eqT false false) (eqL false false (need (eqT false false) (eqL (eqB (senseF
    i (addW IntKind.i64 h b) i' (addW IntKind.i64 h' b) al) (senseF i h i' h' al)) (eqB (senseF i (addW IntKind.i64 h b) i' (addW IntKind.i64 h' b) al) (senseF i h i'
    h' al)) (eqL (eqB (senseF i (addW IntKind.i64 h b) i' (addW IntKind.i64 h' b) al) (senseF i h i' h' al)) (eqB (senseF i (addW IntKind.i64 h b) i' (addW IntKind.i64
    h' b) al) (senseF i h i' h' al)) (need (eqT false false) (eqL false false (need (eqT false false) (eqL false false (eqL false false (eqL (eqB (senseF i (addW IntKind.i64
    h b) i' (addW IntKind.i64 h' b) al) (senseF i h i' h' al)) (eqB (senseF i (addW IntKind.i64 h b) i' (addW IntKind.i64 h' b) al) (senseF i h i' h' al)) (eqL (eqB
    (senseF i (addW IntKind.i64 h b) i' (addW IntKind.i64 h' b) al) (senseF i h i' h' al)) (eqB (senseF i (addW IntKind.i64 h b) i' (addW IntKind.i64 h' b) al) (senseF
    i h i' h' al)) (need (eqT false false) (eqL false false (need (eqT false false) (eqL false false (need (eqT false false) (eqL (eqB (senseF i (addW IntKind.i64 h
    b) i' (addW IntKind.i64 h' b) al) (senseF i h i' h' al)) (eqB (senseF i (addW IntKind.i64 h b) i' (addW IntKind.i64 h' b) al) (senseF i h i' h' al)) (eqL (eqB (senseF
    i (addW IntKind.i64 h b) i' (addW IntKind.i64 h' b) al) (senseF i h i' h' al)) (eqB (senseF i (addW IntKind.i64 h b) i' (addW IntKind.i64 h' b) al) (senseF i h i'
    h' al)) (need (eqT false false) (eqL false false (need (eqT false false) (eqL false false (need (eqT false false) (eqL false false (AOut.ret (AV.bool false) = AOut.ret
    (AV.bool true)))))))))))))))))))))))))))))))))))))) (eqL (eqB (senseF i (addW IntKind.i64 h b) i' (addW IntKind.i64 h' b) al) (senseF i h i' h' al)) (eqB (senseF
    i (addW IntKind.i64 h b) i' (addW IntKind.i64 h' b) al) (senseF i h i' h' al)) (eqL (eqB (senseF i (addW IntKind.i64 h b) i' (addW IntKind.i64 h' b) al) (senseF
    i h i' h' al)) (eqB (senseF i (addW IntKind.i64 h b) i' (addW IntKind.i64 h' b) al) (senseF i h i' h' al)) (need (eqT false false) (eqL false false (eqL (eqB (senseF
    i (addW IntKind.i64 h b) i' (addW IntKind.i64 h' b) al) (senseF i h i' h' al)) (eqB (senseF i (addW IntKind.i64 h b) i' (addW IntKind.i64 h' b) al) (senseF i h i'
    h' al)) (eqL (eqB (senseF i (addW IntKind.i64 h b) i' (addW IntKind.i64 h' b) al) (senseF i h i' h' al)) (eqB (senseF i (addW IntKind.i64 h b) i' (addW IntKind.i64
    h' b) al) (senseF i h i' h' al)) (need (eqT false false) (eqL false false (eqL (eqB (senseF i (addW IntKind.i64 h b) i' (addW IntKind.i64 h' b) al) (senseF i h i'
    h' al)) (eqB (senseF i (addW IntKind.i64 h b) i' (addW IntKind.i64 h' b) al) (senseF i h i' h' al)) (eqL (eqB (senseF i (addW IntKind.i64 h b) i' (addW IntKind.i64
    h' b) al) (senseF i h i' h' al)) (eqB (senseF i (addW IntKind.i64 h b) i' (addW IntKind.i64 h' b) al) (senseF i h i' h' al)) (need (eqT false false) (eqL false false
    (need (eqT false false) (eqL (eqB (senseF i (addW IntKind.i64 h b) i' (addW IntKind.i64 h' b) al) (senseF i h i' h' al)) (eqB (senseF i (addW IntKind.i64 h b) i'
    (addW IntKind.i64 h' b) al) (senseF i h i' h' al)) (eqL (eqB (senseF i (addW IntKind.i64 h b) i' (addW IntKind.i64 h' b) al) (senseF i h i' h' al)) (eqB (senseF
    i (addW IntKind.i64 h b) i' (addW IntKind.i64 h' b) al) (senseF i h i' h' al)) (need (eqT false false) (eqL false false (need (eqT false false) (eqL false false
    (eqL false false (eqL (eqB (senseF i (addW IntKind.i64 h b) i' (addW IntKind.i64 h' b) al) (senseF i h i' h' al)) (eqB (senseF i (addW IntKind.i64 h b) i' (addW
    IntKind.i64 h' b) al) (senseF i h i' h' al)) (eqL (eqB (senseF i (addW IntKind.i64 h b) i' (addW IntKind.i64 h' b) al) (senseF i h i' h' al)) (eqB (senseF i (addW
    IntKind.i64 h b) i' (addW IntKind.i64 h' b) al) (senseF i h i' h' al)) (need (eqT false false) (eqL false false (need (eqT false false) (eqL false false (need (eqT
    false false) (eqL (eqB (senseF i (addW IntKind.i64 h b) i' (addW IntKind.i64 h' b) al) (senseF i h i' h' al)) (eqB (senseF i (addW IntKind.i64 h b) i' (addW IntKind.i64
    h' b) al) (senseF i h i' h' al)) (eqL (eqB (senseF i (addW IntKind.i64 h b) i' (addW IntKind.i64 h' b) al) (senseF i h i' h' al)) (eqB (senseF i (addW IntKind.i64
    h b) i' (addW IntKind.i64 h' b) al) (senseF i h i' h' al)) (need (eqT false false) (eqL false false (need (eqT false false) (eqL false false (need (eqT false false)
    (eqL false false (AOut.ret (AV.bool false) = AOut.ret (AV.bool true)))))))))))))))))))))))))))))))))))))))))))))))))))))))))))))))))))))))))))))))))))))))))))))
    (eqI i i (eqI h h (eqI g g (eqI i' i' (eqI h' h' (eqI g' g' (eqI i i (eqI h h (eqI g g (eqI i' i' (eqI h' h' (eqI g' g' (eqI i' i' (eqI h' h' (eqI g' g' (eqL true
    true (eqI i i (eqI (addW IntKind.i64 h b) (addW IntKind.i64 h b) (eqI g g (eqI i' i' (eqI (addW IntKind.i64 h' b) (addW IntKind.i64 h' b) (eqI g' g' (eqI al al (eqI
    i i (eqI h h (eqI g g (eqI i' i' (eqI h' h' (eqI g' g' (eqI al al (need (rI (addW IntKind.i64 h b)) (need (rI (addW IntKind.i64 h' b)) (need (rI al) (eqI i i (eqI
    h h (eqI g g (eqI i' i' (eqI h' h' (eqI g' g' (eqI al al (need (rI h) (need (rI h') (need (rI al) (ifB (eqB (senseF i (addW IntKind.i64 h b) i' (addW IntKind.i64
    h' b) al) (senseF i h i' h' al)) (eqL (eqB (senseF i (addW IntKind.i64 h b) i' (addW IntKind.i64 h' b) al) (senseF i h i' h' al)) (eqB (senseF i (addW IntKind.i64
    h b) i' (addW IntKind.i64 h' b) al) (senseF i h i' h' al)) (eqL (eqB (senseF i (addW IntKind.i64 h b) i' (addW IntKind.i64 h' b) al) (senseF i h i' h' al)) (eqB
    (senseF i (addW IntKind.i64 h b) i' (addW IntKind.i64 h' b) al) (senseF i h i' h' al)) (eqL (eqB (senseF i (addW IntKind.i64 h b) i' (addW IntKind.i64 h' b) al)
    (senseF i h i' h' al)) true (eqI i i (eqI (addW IntKind.i64 h b) (addW IntKind.i64 h b) (eqI g g (eqI i' i' (eqI (addW IntKind.i64 h' b) (addW IntKind.i64 h' b)
    (eqI g' g' (eqI s s (eqI i i (eqI h h (eqI g g (eqI i' i' (eqI h' h' (eqI g' g' (eqI s s (need (rI (addW IntKind.i64 h b)) (need (rI (addW IntKind.i64 h' b)) (need
    (rI g') (need (rI s) (eqL (eqB (senseF i (addW IntKind.i64 h b) i' (addW IntKind.i64 h' b) al) (senseF i h i' h' al)) (eqB (senseF i (addW IntKind.i64 h b) i' (addW
    IntKind.i64 h' b) al) (senseF i h i' h' al)) (eqL (eqB (senseF i (addW IntKind.i64 h b) i' (addW IntKind.i64 h' b) al) (senseF i h i' h' al)) (eqB (senseF i (addW
    IntKind.i64 h b) i' (addW IntKind.i64 h' b) al) (senseF i h i' h' al)) (eqI i i (eqI h h (eqI g g (eqI i' i' (eqI h' h' (eqI g' g' (eqI s s (need (rI h) (need (rI
    h') (need (rI g') (need (rI s) (ifB (eqB (gapF (addW IntKind.i64 h b) (addW IntKind.i64 h' b) g' s) (gapF h h' g' s)) (eqL (eqB (senseF i (addW IntKind.i64 h b)
    i' (addW IntKind.i64 h' b) al) (senseF i h i' h' al)) (eqB (senseF i (addW IntKind.i64 h b) i' (addW IntKind.i64 h' b) al) (senseF i h i' h' al)) (eqL (eqB (senseF
    i (addW IntKind.i64 h b) i' (addW IntKind.i64 h' b) al) (senseF i h i' h' al)) (eqB (senseF i (addW IntKind.i64 h b) i' (addW IntKind.i64 h' b) al) (senseF i h i'
    h' al)) (eqL (eqB (gapF (addW IntKind.i64 h b) (addW IntKind.i64 h' b) g' s) (gapF h h' g' s)) (eqB (gapF (addW IntKind.i64 h b) (addW IntKind.i64 h' b) g' s) (gapF
    h h' g' s)) (eqL (eqB (gapF (addW IntKind.i64 h b) (addW IntKind.i64 h' b) g' s) (gapF h h' g' s)) (eqB (gapF (addW IntKind.i64 h b) (addW IntKind.i64 h' b) g' s)
    (gapF h h' g' s)) (eqL (eqB (gapF (addW IntKind.i64 h b) (addW IntKind.i64 h' b) g' s) (gapF h h' g' s)) true (eqI i i (eqI (addW IntKind.i64 h b) (addW IntKind.i64
    h b) (eqI g g (eqI mv mv (eqI ls ls (eqI s s (eqI i' i' (eqI (addW IntKind.i64 h' b) (addW IntKind.i64 h' b) (eqI g' g' (eqI i i (eqI h h (eqI g g (eqI mv mv (eqI
    ls ls (eqI s s (eqI i' i' (eqI h' h' (eqI g' g' (need (eqL (eqB (senseF i (addW IntKind.i64 h b) i' (addW IntKind.i64 h' b) al) (senseF i h i' h' al)) (eqB (senseF
    i (addW IntKind.i64 h b) i' (addW IntKind.i64 h' b) al) (senseF i h i' h' al)) (eqL (eqB (senseF i (addW IntKind.i64 h b) i' (addW IntKind.i64 h' b) al) (senseF
    i h i' h' al)) (eqB (senseF i (addW IntKind.i64 h b) i' (addW IntKind.i64 h' b) al) (senseF i h i' h' al)) (eqL (eqB (gapF (addW IntKind.i64 h b) (addW IntKind.i64
    h' b) g' s) (gapF h h' g' s)) (eqB (gapF (addW IntKind.i64 h b) (addW IntKind.i64 h' b) g' s) (gapF h h' g' s)) (eqL (eqB (gapF (addW IntKind.i64 h b) (addW IntKind.i64
    h' b) g' s) (gapF h h' g' s)) (eqB (gapF (addW IntKind.i64 h b) (addW IntKind.i64 h' b) g' s) (gapF h h' g' s)) (eqI i i (eqI (addW IntKind.i64 h b) (addW IntKind.i64
    h b) (eqI g g (eqI mv mv (eqI ls ls (eqI s s (eqI i i (eqI h h (eqI g g (eqI mv mv (eqI ls ls (eqI s s (eqI i' i' (eqI h' h' (eqI g' g' (need (need (lenOK (lenI
    ((i', addW IntKind.i64 h' b, g') :: @List.nil (den SeenT)))) (need (rI (addW IntKind.i64 h b)) (need (rI mv) (need (rI ls) (need (rI s) (need (rIs ((i', addW IntKind.i64
    h' b, g') :: @List.nil (den SeenT))) (eqL (eqB (senseF i (addW IntKind.i64 h b) i' (addW IntKind.i64 h' b) al) (senseF i h i' h' al)) (eqB (senseF i (addW IntKind.i64
    h b) i' (addW IntKind.i64 h' b) al) (senseF i h i' h' al)) (eqL (eqB (senseF i (addW IntKind.i64 h b) i' (addW IntKind.i64 h' b) al) (senseF i h i' h' al)) (eqB
    (senseF i (addW IntKind.i64 h b) i' (addW IntKind.i64 h' b) al) (senseF i h i' h' al)) (eqL (eqB (gapF (addW IntKind.i64 h b) (addW IntKind.i64 h' b) g' s) (gapF
    h h' g' s)) (eqB (gapF (addW IntKind.i64 h b) (addW IntKind.i64 h' b) g' s) (gapF h h' g' s)) (eqL (eqB (gapF (addW IntKind.i64 h b) (addW IntKind.i64 h' b) g' s)
    (gapF h h' g' s)) (eqB (gapF (addW IntKind.i64 h b) (addW IntKind.i64 h' b) g' s) (gapF h h' g' s)) (eqI i i (eqI h h (eqI g g (eqI mv mv (eqI ls ls (eqI s s (eqI
    i' i' (eqI h' h' (eqI g' g' (eqL (eqB (senseF i (addW IntKind.i64 h b) i' (addW IntKind.i64 h' b) al) (senseF i h i' h' al)) (eqB (senseF i (addW IntKind.i64 h b)
    i' (addW IntKind.i64 h' b) al) (senseF i h i' h' al)) (eqL (eqB (senseF i (addW IntKind.i64 h b) i' (addW IntKind.i64 h' b) al) (senseF i h i' h' al)) (eqB (senseF
    i (addW IntKind.i64 h b) i' (addW IntKind.i64 h' b) al) (senseF i h i' h' al)) (eqL (eqB (gapF (addW IntKind.i64 h b) (addW IntKind.i64 h' b) g' s) (gapF h h' g'
    s)) (eqB (gapF (addW IntKind.i64 h b) (addW IntKind.i64 h' b) g' s) (gapF h h' g' s)) (eqL (eqB (gapF (addW IntKind.i64 h b) (addW IntKind.i64 h' b) g' s) (gapF
    h h' g' s)) (eqB (gapF (addW IntKind.i64 h b) (addW IntKind.i64 h' b) g' s) (gapF h h' g' s)) (eqI i i (eqI h h (eqI g g (eqI mv mv (eqI ls ls (eqI s s (need (lenOK
    (lenI ((i', h', g') :: @List.nil (den SeenT)))) (need (rI h) (need (rI mv) (need (rI ls) (need (rI s) (need (rIs ((i', h', g') :: @List.nil (den SeenT))) (ifB (beqB
    (safeF (addW IntKind.i64 h b) mv ls s ((i', addW IntKind.i64 h' b, g') :: @List.nil (den SeenT))) (safeF h mv ls s ((i', h', g') :: @List.nil (den SeenT)))) (eqL
    (eqB (senseF i (addW IntKind.i64 h b) i' (addW IntKind.i64 h' b) al) (senseF i h i' h' al)) (eqB (senseF i (addW IntKind.i64 h b) i' (addW IntKind.i64 h' b) al)
    (senseF i h i' h' al)) (eqL (eqB (senseF i (addW IntKind.i64 h b) i' (addW IntKind.i64 h' b) al) (senseF i h i' h' al)) (eqB (senseF i (addW IntKind.i64 h b) i'
    (addW IntKind.i64 h' b) al) (senseF i h i' h' al)) (eqL (eqB (gapF (addW IntKind.i64 h b) (addW IntKind.i64 h' b) g' s) (gapF h h' g' s)) (eqB (gapF (addW IntKind.i64
    h b) (addW IntKind.i64 h' b) g' s) (gapF h h' g' s)) (eqL (eqB (gapF (addW IntKind.i64 h b) (addW IntKind.i64 h' b) g' s) (gapF h h' g' s)) (eqB (gapF (addW IntKind.i64
    h b) (addW IntKind.i64 h' b) g' s) (gapF h h' g' s)) (eqL (beqB (safeF (addW IntKind.i64 h b) mv ls s ((i', addW IntKind.i64 h' b, g') :: @List.nil (den SeenT)))
    (safeF h mv ls s ((i', h', g') :: @List.nil (den SeenT)))) (beqB (safeF (addW IntKind.i64 h b) mv ls s ((i', addW IntKind.i64 h' b, g') :: @List.nil (den SeenT)))
    (safeF h mv ls s ((i', h', g') :: @List.nil (den SeenT)))) (eqL (beqB (safeF (addW IntKind.i64 h b) mv ls s ((i', addW IntKind.i64 h' b, g') :: @List.nil (den SeenT)))
    (safeF h mv ls s ((i', h', g') :: @List.nil (den SeenT)))) (beqB (safeF (addW IntKind.i64 h b) mv ls s ((i', addW IntKind.i64 h' b, g') :: @List.nil (den SeenT)))
    (safeF h mv ls s ((i', h', g') :: @List.nil (den SeenT)))) (eqL (beqB (safeF (addW IntKind.i64 h b) mv ls s ((i', addW IntKind.i64 h' b, g') :: @List.nil (den SeenT)))
    (safeF h mv ls s ((i', h', g') :: @List.nil (den SeenT)))) true (eqI i i (eqI h h (eqI g g (eqI i' i' (eqI h' h' (eqI g' g' (eqI s s (eqI h' h' (eqI 0 0 (eqI h'
    h' (eqI 0 0 (eqI h h (eqI g' g' (eqI 0 0 (eqI h h (eqI g' g' (eqI s s (need (rI h) (need (rI h') (need (rI g') (need (rI s) (eqL (eqB (senseF i (addW IntKind.i64
    h b) i' (addW IntKind.i64 h' b) al) (senseF i h i' h' al)) (eqB (senseF i (addW IntKind.i64 h b) i' (addW IntKind.i64 h' b) al) (senseF i h i' h' al)) (eqL (eqB
    (senseF i (addW IntKind.i64 h b) i' (addW IntKind.i64 h' b) al) (senseF i h i' h' al)) (eqB (senseF i (addW IntKind.i64 h b) i' (addW IntKind.i64 h' b) al) (senseF
    i h i' h' al)) (eqL (eqB (gapF (addW IntKind.i64 h b) (addW IntKind.i64 h' b) g' s) (gapF h h' g' s)) (eqB (gapF (addW IntKind.i64 h b) (addW IntKind.i64 h' b) g'
    s) (gapF h h' g' s)) (eqL (eqB (gapF (addW IntKind.i64 h b) (addW IntKind.i64 h' b) g' s) (gapF h h' g' s)) (eqB (gapF (addW IntKind.i64 h b) (addW IntKind.i64 h'
    b) g' s) (gapF h h' g' s)) (eqL (beqB (safeF (addW IntKind.i64 h b) mv ls s ((i', addW IntKind.i64 h' b, g') :: @List.nil (den SeenT))) (safeF h mv ls s ((i', h',
    g') :: @List.nil (den SeenT)))) (beqB (safeF (addW IntKind.i64 h b) mv ls s ((i', addW IntKind.i64 h' b, g') :: @List.nil (den SeenT))) (safeF h mv ls s ((i', h',
    g') :: @List.nil (den SeenT)))) (eqL (beqB (safeF (addW IntKind.i64 h b) mv ls s ((i', addW IntKind.i64 h' b, g') :: @List.nil (den SeenT))) (safeF h mv ls s ((i',
    h', g') :: @List.nil (den SeenT)))) (beqB (safeF (addW IntKind.i64 h b) mv ls s ((i', addW IntKind.i64 h' b, g') :: @List.nil (den SeenT))) (safeF h mv ls s ((i',
    h', g') :: @List.nil (den SeenT)))) (eqI h' h' (eqI 0 0 (eqI h' h' (eqI 0 0 (eqI h h (eqI g' g' (eqI 0 0 (eqI h h (eqI g' g' (eqI s s (need (rI h') (need (rI h)
    (need (rI g') (need (rI s) (eqL (eqB (senseF i (addW IntKind.i64 h b) i' (addW IntKind.i64 h' b) al) (senseF i h i' h' al)) (eqB (senseF i (addW IntKind.i64 h b)
    i' (addW IntKind.i64 h' b) al) (senseF i h i' h' al)) (eqL (eqB (senseF i (addW IntKind.i64 h b) i' (addW IntKind.i64 h' b) al) (senseF i h i' h' al)) (eqB (senseF
    i (addW IntKind.i64 h b) i' (addW IntKind.i64 h' b) al) (senseF i h i' h' al)) (eqL (eqB (gapF (addW IntKind.i64 h b) (addW IntKind.i64 h' b) g' s) (gapF h h' g'
    s)) (eqB (gapF (addW IntKind.i64 h b) (addW IntKind.i64 h' b) g' s) (gapF h h' g' s)) (eqL (eqB (gapF (addW IntKind.i64 h b) (addW IntKind.i64 h' b) g' s) (gapF
    h h' g' s)) (eqB (gapF (addW IntKind.i64 h b) (addW IntKind.i64 h' b) g' s) (gapF h h' g' s)) (eqL (beqB (safeF (addW IntKind.i64 h b) mv ls s ((i', addW IntKind.i64
    h' b, g') :: @List.nil (den SeenT))) (safeF h mv ls s ((i', h', g') :: @List.nil (den SeenT)))) (beqB (safeF (addW IntKind.i64 h b) mv ls s ((i', addW IntKind.i64
    h' b, g') :: @List.nil (den SeenT))) (safeF h mv ls s ((i', h', g') :: @List.nil (den SeenT)))) (eqL (beqB (safeF (addW IntKind.i64 h b) mv ls s ((i', addW IntKind.i64
    h' b, g') :: @List.nil (den SeenT))) (safeF h mv ls s ((i', h', g') :: @List.nil (den SeenT)))) (beqB (safeF (addW IntKind.i64 h b) mv ls s ((i', addW IntKind.i64
    h' b, g') :: @List.nil (den SeenT))) (safeF h mv ls s ((i', h', g') :: @List.nil (den SeenT)))) (eqI h' h' (eqI h h (eqI g' g' (eqL (eqB (gapF h h' g' s) (gapF h'
    h g' s)) (eqB (gapF h h' g' s) (gapF h' h g' s)) (eqL (eqB (gapF h h' g' s) (gapF h' h g' s)) (eqB (gapF h h' g' s) (gapF h' h g' s)) (AOut.ret (AV.bool (eqB (gapF
    h h' g' s) (gapF h' h g' s))) = AOut.ret (AV.bool true))))))))))))))))))))))))))))))))))))))))))))))))))))))))))))) (eqL (eqB (senseF i (addW IntKind.i64 h b) i'
    (addW IntKind.i64 h' b) al) (senseF i h i' h' al)) (eqB (senseF i (addW IntKind.i64 h b) i' (addW IntKind.i64 h' b) al) (senseF i h i' h' al)) (eqL (eqB (senseF
    i (addW IntKind.i64 h b) i' (addW IntKind.i64 h' b) al) (senseF i h i' h' al)) (eqB (senseF i (addW IntKind.i64 h b) i' (addW IntKind.i64 h' b) al) (senseF i h i'
    h' al)) (eqL (eqB (gapF (addW IntKind.i64 h b) (addW IntKind.i64 h' b) g' s) (gapF h h' g' s)) (eqB (gapF (addW IntKind.i64 h b) (addW IntKind.i64 h' b) g' s) (gapF
    h h' g' s)) (eqL (eqB (gapF (addW IntKind.i64 h b) (addW IntKind.i64 h' b) g' s) (gapF h h' g' s)) (eqB (gapF (addW IntKind.i64 h b) (addW IntKind.i64 h' b) g' s)
    (gapF h h' g' s)) (eqL (beqB (safeF (addW IntKind.i64 h b) mv ls s ((i', addW IntKind.i64 h' b, g') :: @List.nil (den SeenT))) (safeF h mv ls s ((i', h', g') ::
    @List.nil (den SeenT)))) (beqB (safeF (addW IntKind.i64 h b) mv ls s ((i', addW IntKind.i64 h' b, g') :: @List.nil (den SeenT))) (safeF h mv ls s ((i', h', g') ::
    @List.nil (den SeenT)))) (eqL (beqB (safeF (addW IntKind.i64 h b) mv ls s ((i', addW IntKind.i64 h' b, g') :: @List.nil (den SeenT))) (safeF h mv ls s ((i', h',
    g') :: @List.nil (den SeenT)))) (beqB (safeF (addW IntKind.i64 h b) mv ls s ((i', addW IntKind.i64 h' b, g') :: @List.nil (den SeenT))) (safeF h mv ls s ((i', h',
    g') :: @List.nil (den SeenT)))) (eqL (beqB (safeF (addW IntKind.i64 h b) mv ls s ((i', addW IntKind.i64 h' b, g') :: @List.nil (den SeenT))) (safeF h mv ls s ((i',
    h', g') :: @List.nil (den SeenT)))) false (eqL (eqB (senseF i (addW IntKind.i64 h b) i' (addW IntKind.i64 h' b) al) (senseF i h i' h' al)) (eqB (senseF i (addW IntKind.i64
    h b) i' (addW IntKind.i64 h' b) al) (senseF i h i' h' al)) (eqL (eqB (senseF i (addW IntKind.i64 h b) i' (addW IntKind.i64 h' b) al) (senseF i h i' h' al)) (eqB
    (senseF i (addW IntKind.i64 h b) i' (addW IntKind.i64 h' b) al) (senseF i h i' h' al)) (eqL (eqB (gapF (addW IntKind.i64 h b) (addW IntKind.i64 h' b) g' s) (gapF
    h h' g' s)) (eqB (gapF (addW IntKind.i64 h b) (addW IntKind.i64 h' b) g' s) (gapF h h' g' s)) (eqL (eqB (gapF (addW IntKind.i64 h b) (addW IntKind.i64 h' b) g' s)
    (gapF h h' g' s)) (eqB (gapF (addW IntKind.i64 h b) (addW IntKind.i64 h' b) g' s) (gapF h h' g' s)) (eqL (beqB (safeF (addW IntKind.i64 h b) mv ls s ((i', addW IntKind.i64
    h' b, g') :: @List.nil (den SeenT))) (safeF h mv ls s ((i', h', g') :: @List.nil (den SeenT)))) (beqB (safeF (addW IntKind.i64 h b) mv ls s ((i', addW IntKind.i64
    h' b, g') :: @List.nil (den SeenT))) (safeF h mv ls s ((i', h', g') :: @List.nil (den SeenT)))) (eqL (beqB (safeF (addW IntKind.i64 h b) mv ls s ((i', addW IntKind.i64
    h' b, g') :: @List.nil (den SeenT))) (safeF h mv ls s ((i', h', g') :: @List.nil (den SeenT)))) (beqB (safeF (addW IntKind.i64 h b) mv ls s ((i', addW IntKind.i64
    h' b, g') :: @List.nil (den SeenT))) (safeF h mv ls s ((i', h', g') :: @List.nil (den SeenT)))) (need (eqT false false) (eqL (eqB (senseF i (addW IntKind.i64 h b)
    i' (addW IntKind.i64 h' b) al) (senseF i h i' h' al)) (eqB (senseF i (addW IntKind.i64 h b) i' (addW IntKind.i64 h' b) al) (senseF i h i' h' al)) (eqL (eqB (senseF
    i (addW IntKind.i64 h b) i' (addW IntKind.i64 h' b) al) (senseF i h i' h' al)) (eqB (senseF i (addW IntKind.i64 h b) i' (addW IntKind.i64 h' b) al) (senseF i h i'
    h' al)) (eqL (eqB (gapF (addW IntKind.i64 h b) (addW IntKind.i64 h' b) g' s) (gapF h h' g' s)) (eqB (gapF (addW IntKind.i64 h b) (addW IntKind.i64 h' b) g' s) (gapF
    h h' g' s)) (eqL (eqB (gapF (addW IntKind.i64 h b) (addW IntKind.i64 h' b) g' s) (gapF h h' g' s)) (eqB (gapF (addW IntKind.i64 h b) (addW IntKind.i64 h' b) g' s)
    (gapF h h' g' s)) (eqL (beqB (safeF (addW IntKind.i64 h b) mv ls s ((i', addW IntKind.i64 h' b, g') :: @List.nil (den SeenT))) (safeF h mv ls s ((i', h', g') ::
    @List.nil (den SeenT)))) (beqB (safeF (addW IntKind.i64 h b) mv ls s ((i', addW IntKind.i64 h' b, g') :: @List.nil (den SeenT))) (safeF h mv ls s ((i', h', g') ::
    @List.nil (den SeenT)))) (eqL (beqB (safeF (addW IntKind.i64 h b) mv ls s ((i', addW IntKind.i64 h' b, g') :: @List.nil (den SeenT))) (safeF h mv ls s ((i', h',
    g') :: @List.nil (den SeenT)))) (beqB (safeF (addW IntKind.i64 h b) mv ls s ((i', addW IntKind.i64 h' b, g') :: @List.nil (den SeenT))) (safeF h mv ls s ((i', h',
    g') :: @List.nil (den SeenT)))) (need (eqT false false) (eqL false false (AOut.ret (AV.bool false) = AOut.ret (AV.bool true))))))))))))))))))))))))))))))))))))))))))))))))))))))))))))
    (eqL (eqB (senseF i (addW IntKind.i64 h b) i' (addW IntKind.i64 h' b) al) (senseF i h i' h' al)) (eqB (senseF i (addW IntKind.i64 h b) i' (addW IntKind.i64 h' b)
    al) (senseF i h i' h' al)) (eqL (eqB (senseF i (addW IntKind.i64 h b) i' (addW IntKind.i64 h' b) al) (senseF i h i' h' al)) (eqB (senseF i (addW IntKind.i64 h b)
    i' (addW IntKind.i64 h' b) al) (senseF i h i' h' al)) (eqL (eqB (gapF (addW IntKind.i64 h b) (addW IntKind.i64 h' b) g' s) (gapF h h' g' s)) (eqB (gapF (addW IntKind.i64
    h b) (addW IntKind.i64 h' b) g' s) (gapF h h' g' s)) (eqL (eqB (gapF (addW IntKind.i64 h b) (addW IntKind.i64 h' b) g' s) (gapF h h' g' s)) (eqB (gapF (addW IntKind.i64
    h b) (addW IntKind.i64 h' b) g' s) (gapF h h' g' s)) (eqI i i (eqI (addW IntKind.i64 h b) (addW IntKind.i64 h b) (eqI g g (eqI mv mv (eqI ls ls (eqI s s (eqI i i
    (eqI h h (eqI g g (eqI mv mv (eqI ls ls (eqI s s (need (lenOK (lenI ((i', addW IntKind.i64 h' b, g') :: @List.nil (den SeenT)))) (need (rI (addW IntKind.i64 h b))
    (need (rI mv) (need (rI ls) (need (rI s) (need (rIs ((i', addW IntKind.i64 h' b, g') :: @List.nil (den SeenT))) (eqL (eqB (senseF i (addW IntKind.i64 h b) i' (addW
    IntKind.i64 h' b) al) (senseF i h i' h' al)) (eqB (senseF i (addW IntKind.i64 h b) i' (addW IntKind.i64 h' b) al) (senseF i h i' h' al)) (eqL (eqB (senseF i (addW
    IntKind.i64 h b) i' (addW IntKind.i64 h' b) al) (senseF i h i' h' al)) (eqB (senseF i (addW IntKind.i64 h b) i' (addW IntKind.i64 h' b) al) (senseF i h i' h' al))
    (eqL (eqB (gapF (addW IntKind.i64 h b) (addW IntKind.i64 h' b) g' s) (gapF h h' g' s)) (eqB (gapF (addW IntKind.i64 h b) (addW IntKind.i64 h' b) g' s) (gapF h h'
    g' s)) (eqL (eqB (gapF (addW IntKind.i64 h b) (addW IntKind.i64 h' b) g' s) (gapF h h' g' s)) (eqB (gapF (addW IntKind.i64 h b) (addW IntKind.i64 h' b) g' s) (gapF
    h h' g' s)) (eqI i i (eqI h h (eqI g g (eqI mv mv (eqI ls ls (eqI s s (need (lenOK (lenI ((i', h', g') :: @List.nil (den SeenT)))) (need (rI h) (need (rI mv) (need
    (rI ls) (need (rI s) (need (rIs ((i', h', g') :: @List.nil (den SeenT))) (ifB (beqB (safeF (addW IntKind.i64 h b) mv ls s ((i', addW IntKind.i64 h' b, g') :: @List.nil
    (den SeenT))) (safeF h mv ls s ((i', h', g') :: @List.nil (den SeenT)))) (eqL (eqB (senseF i (addW IntKind.i64 h b) i' (addW IntKind.i64 h' b) al) (senseF i h i'
    h' al)) (eqB (senseF i (addW IntKind.i64 h b) i' (addW IntKind.i64 h' b) al) (senseF i h i' h' al)) (eqL (eqB (senseF i (addW IntKind.i64 h b) i' (addW IntKind.i64
    h' b) al) (senseF i h i' h' al)) (eqB (senseF i (addW IntKind.i64 h b) i' (addW IntKind.i64 h' b) al) (senseF i h i' h' al)) (eqL (eqB (gapF (addW IntKind.i64 h
    b) (addW IntKind.i64 h' b) g' s) (gapF h h' g' s)) (eqB (gapF (addW IntKind.i64 h b) (addW IntKind.i64 h' b) g' s) (gapF h h' g' s)) (eqL (eqB (gapF (addW IntKind.i64
    h b) (addW IntKind.i64 h' b) g' s) (gapF h h' g' s)) (eqB (gapF (addW IntKind.i64 h b) (addW IntKind.i64 h' b) g' s) (gapF h h' g' s)) (eqL (beqB (safeF (addW IntKind.i64
    h b) mv ls s ((i', addW IntKind.i64 h' b, g') :: @List.nil (den SeenT))) (safeF h mv ls s ((i', h', g') :: @List.nil (den SeenT)))) (beqB (safeF (addW IntKind.i64
    h b) mv ls s ((i', addW IntKind.i64 h' b, g') :: @List.nil (den SeenT))) (safeF h mv ls s ((i', h', g') :: @List.nil (den SeenT)))) (eqL (beqB (safeF (addW IntKind.i64
    h b) mv ls s ((i', addW IntKind.i64 h' b, g') :: @List.nil (den SeenT))) (safeF h mv ls s ((i', h', g') :: @List.nil (den SeenT)))) (beqB (safeF (addW IntKind.i64
    h b) mv ls s ((i', addW IntKind.i64 h' b, g') :: @List.nil (den SeenT))) (safeF h mv ls s ((i', h', g') :: @List.nil (den SeenT)))) (eqL (beqB (safeF (addW IntKind.i64
    h b) mv ls s ((i', addW IntKind.i64 h' b, g') :: @List.nil (den SeenT))) (safeF h mv ls s ((i', h', g') :: @List.nil (den SeenT)))) true (eqI i i (eqI h h (eqI g
    g (eqI i' i' (eqI h' h' (eqI g' g' (eqI s s (eqI h' h' (eqI 0 0 (eqI h' h' (eqI 0 0 (eqI h h (eqI g' g' (eqI 0 0 (eqI h h (eqI g' g' (eqI s s (need (rI h) (need
    (rI h') (need (rI g') (need (rI s) (eqL (eqB (senseF i (addW IntKind.i64 h b) i' (addW IntKind.i64 h' b) al) (senseF i h i' h' al)) (eqB (senseF i (addW IntKind.i64
    h b) i' (addW IntKind.i64 h' b) al) (senseF i h i' h' al)) (eqL (eqB (senseF i (addW IntKind.i64 h b) i' (addW IntKind.i64 h' b) al) (senseF i h i' h' al)) (eqB
    (senseF i (addW IntKind.i64 h b) i' (addW IntKind.i64 h' b) al) (senseF i h i' h' al)) (eqL (eqB (gapF (addW IntKind.i64 h b) (addW IntKind.i64 h' b) g' s) (gapF
    h h' g' s)) (eqB (gapF (addW IntKind.i64 h b) (addW IntKind.i64 h' b) g' s) (gapF h h' g' s)) (eqL (eqB (gapF (addW IntKind.i64 h b) (addW IntKind.i64 h' b) g' s)
    (gapF h h' g' s)) (eqB (gapF (addW IntKind.i64 h b) (addW IntKind.i64 h' b) g' s) (gapF h h' g' s)) (eqL (beqB (safeF (addW IntKind.i64 h b) mv ls s ((i', addW IntKind.i64
    h' b, g') :: @List.nil (den SeenT))) (safeF h mv ls s ((i', h', g') :: @List.nil (den SeenT)))) (beqB (safeF (addW IntKind.i64 h b) mv ls s ((i', addW IntKind.i64
    h' b, g') :: @List.nil (den SeenT))) (safeF h mv ls s ((i', h', g') :: @List.nil (den SeenT)))) (eqL (beqB (safeF (addW IntKind.i64 h b) mv ls s ((i', addW IntKind.i64
    h' b, g') :: @List.nil (den SeenT))) (safeF h mv ls s ((i', h', g') :: @List.nil (den SeenT)))) (beqB (safeF (addW IntKind.i64 h b) mv ls s ((i', addW IntKind.i64
    h' b, g') :: @List.nil (den SeenT))) (safeF h mv ls s ((i', h', g') :: @List.nil (den SeenT)))) (eqI h' h' (eqI 0 0 (eqI h' h' (eqI 0 0 (eqI h h (eqI g' g' (eqI
    0 0 (eqI h h (eqI g' g' (eqI s s (need (rI h') (need (rI h) (need (rI g') (need (rI s) (eqL (eqB (senseF i (addW IntKind.i64 h b) i' (addW IntKind.i64 h' b) al)
    (senseF i h i' h' al)) (eqB (senseF i (addW IntKind.i64 h b) i' (addW IntKind.i64 h' b) al) (senseF i h i' h' al)) (eqL (eqB (senseF i (addW IntKind.i64 h b) i'
    (addW IntKind.i64 h' b) al) (senseF i h i' h' al)) (eqB (senseF i (addW IntKind.i64 h b) i' (addW IntKind.i64 h' b) al) (senseF i h i' h' al)) (eqL (eqB (gapF (addW
    IntKind.i64 h b) (addW IntKind.i64 h' b) g' s) (gapF h h' g' s)) (eqB (gapF (addW IntKind.i64 h b) (addW IntKind.i64 h' b) g' s) (gapF h h' g' s)) (eqL (eqB (gapF
    (addW IntKind.i64 h b) (addW IntKind.i64 h' b) g' s) (gapF h h' g' s)) (eqB (gapF (addW IntKind.i64 h b) (addW IntKind.i64 h' b) g' s) (gapF h h' g' s)) (eqL (beqB
    (safeF (addW IntKind.i64 h b) mv ls s ((i', addW IntKind.i64 h' b, g') :: @List.nil (den SeenT))) (safeF h mv ls s ((i', h', g') :: @List.nil (den SeenT)))) (beqB
    (safeF (addW IntKind.i64 h b) mv ls s ((i', addW IntKind.i64 h' b, g') :: @List.nil (den SeenT))) (safeF h mv ls s ((i', h', g') :: @List.nil (den SeenT)))) (eqL
    (beqB (safeF (addW IntKind.i64 h b) mv ls s ((i', addW IntKind.i64 h' b, g') :: @List.nil (den SeenT))) (safeF h mv ls s ((i', h', g') :: @List.nil (den SeenT))))
    (beqB (safeF (addW IntKind.i64 h b) mv ls s ((i', addW IntKind.i64 h' b, g') :: @List.nil (den SeenT))) (safeF h mv ls s ((i', h', g') :: @List.nil (den SeenT))))
    (eqI h' h' (eqI h h (eqI g' g' (eqL (eqB (gapF h h' g' s) (gapF h' h g' s)) (eqB (gapF h h' g' s) (gapF h' h g' s)) (eqL (eqB (gapF h h' g' s) (gapF h' h g' s))
    (eqB (gapF h h' g' s) (gapF h' h g' s)) (AOut.ret (AV.bool (eqB (gapF h h' g' s) (gapF h' h g' s))) = AOut.ret (AV.bool true)))))))))))))))))))))))))))))))))))))))))))))))))))))))))))))
    (eqL (eqB (senseF i (addW IntKind.i64 h b) i' (addW IntKind.i64 h' b) al) (senseF i h i' h' al)) (eqB (senseF i (addW IntKind.i64 h b) i' (addW IntKind.i64 h' b)
    al) (senseF i h i' h' al)) (eqL (eqB (senseF i (addW IntKind.i64 h b) i' (addW IntKind.i64 h' b) al) (senseF i h i' h' al)) (eqB (senseF i (addW IntKind.i64 h b)
    i' (addW IntKind.i64 h' b) al) (senseF i h i' h' al)) (eqL (eqB (gapF (addW IntKind.i64 h b) (addW IntKind.i64 h' b) g' s) (gapF h h' g' s)) (eqB (gapF (addW IntKind.i64
    h b) (addW IntKind.i64 h' b) g' s) (gapF h h' g' s)) (eqL (eqB (gapF (addW IntKind.i64 h b) (addW IntKind.i64 h' b) g' s) (gapF h h' g' s)) (eqB (gapF (addW IntKind.i64
    h b) (addW IntKind.i64 h' b) g' s) (gapF h h' g' s)) (eqL (beqB (safeF (addW IntKind.i64 h b) mv ls s ((i', addW IntKind.i64 h' b, g') :: @List.nil (den SeenT)))
    (safeF h mv ls s ((i', h', g') :: @List.nil (den SeenT)))) (beqB (safeF (addW IntKind.i64 h b) mv ls s ((i', addW IntKind.i64 h' b, g') :: @List.nil (den SeenT)))
    (safeF h mv ls s ((i', h', g') :: @List.nil (den SeenT)))) (eqL (beqB (safeF (addW IntKind.i64 h b) mv ls s ((i', addW IntKind.i64 h' b, g') :: @List.nil (den SeenT)))
    (safeF h mv ls s ((i', h', g') :: @List.nil (den SeenT)))) (beqB (safeF (addW IntKind.i64 h b) mv ls s ((i', addW IntKind.i64 h' b, g') :: @List.nil (den SeenT)))
    (safeF h mv ls s ((i', h', g') :: @List.nil (den SeenT)))) (eqL (beqB (safeF (addW IntKind.i64 h b) mv ls s ((i', addW IntKind.i64 h' b, g') :: @List.nil (den SeenT)))
    (safeF h mv ls s ((i', h', g') :: @List.nil (den SeenT)))) false (eqL (eqB (senseF i (addW IntKind.i64 h b) i' (addW IntKind.i64 h' b) al) (senseF i h i' h' al))
    (eqB (senseF i (addW IntKind.i64 h b) i' (addW IntKind.i64 h' b) al) (senseF i h i' h' al)) (eqL (eqB (senseF i (addW IntKind.i64 h b) i' (addW IntKind.i64 h' b)
    al) (senseF i h i' h' al)) (eqB (senseF i (addW IntKind.i64 h b) i' (addW IntKind.i64 h' b) al) (senseF i h i' h' al)) (eqL (eqB (gapF (addW IntKind.i64 h b) (addW
    IntKind.i64 h' b) g' s) (gapF h h' g' s)) (eqB (gapF (addW IntKind.i64 h b) (addW IntKind.i64 h' b) g' s) (gapF h h' g' s)) (eqL (eqB (gapF (addW IntKind.i64 h b)
    (addW IntKind.i64 h' b) g' s) (gapF h h' g' s)) (eqB (gapF (addW IntKind.i64 h b) (addW IntKind.i64 h' b) g' s) (gapF h h' g' s)) (eqL (beqB (safeF (addW IntKind.i64
    h b) mv ls s ((i', addW IntKind.i64 h' b, g') :: @List.nil (den SeenT))) (safeF h mv ls s ((i', h', g') :: @List.nil (den SeenT)))) (beqB (safeF (addW IntKind.i64
    h b) mv ls s ((i', addW IntKind.i64 h' b, g') :: @List.nil (den SeenT))) (safeF h mv ls s ((i', h', g') :: @List.nil (den SeenT)))) (eqL (beqB (safeF (addW IntKind.i64
    h b) mv ls s ((i', addW IntKind.i64 h' b, g') :: @List.nil (den SeenT))) (safeF h mv ls s ((i', h', g') :: @List.nil (den SeenT)))) (beqB (safeF (addW IntKind.i64
    h b) mv ls s ((i', addW IntKind.i64 h' b, g') :: @List.nil (den SeenT))) (safeF h mv ls s ((i', h', g') :: @List.nil (den SeenT)))) (need (eqT false false) (eqL
    (eqB (senseF i (addW IntKind.i64 h b) i' (addW IntKind.i64 h' b) al) (senseF i h i' h' al)) (eqB (senseF i (addW IntKind.i64 h b) i' (addW IntKind.i64 h' b) al)
    (senseF i h i' h' al)) (eqL (eqB (senseF i (addW IntKind.i64 h b) i' (addW IntKind.i64 h' b) al) (senseF i h i' h' al)) (eqB (senseF i (addW IntKind.i64 h b) i'
    (addW IntKind.i64 h' b) al) (senseF i h i' h' al)) (eqL (eqB (gapF (addW IntKind.i64 h b) (addW IntKind.i64 h' b) g' s) (gapF h h' g' s)) (eqB (gapF (addW IntKind.i64
    h b) (addW IntKind.i64 h' b) g' s) (gapF h h' g' s)) (eqL (eqB (gapF (addW IntKind.i64 h b) (addW IntKind.i64 h' b) g' s) (gapF h h' g' s)) (eqB (gapF (addW IntKind.i64
    h b) (addW IntKind.i64 h' b) g' s) (gapF h h' g' s)) (eqL (beqB (safeF (addW IntKind.i64 h b) mv ls s ((i', addW IntKind.i64 h' b, g') :: @List.nil (den SeenT)))
    (safeF h mv ls s ((i', h', g') :: @List.nil (den SeenT)))) (beqB (safeF (addW IntKind.i64 h b) mv ls s ((i', addW IntKind.i64 h' b, g') :: @List.nil (den SeenT)))
    (safeF h mv ls s ((i', h', g') :: @List.nil (den SeenT)))) (eqL (beqB (safeF (addW IntKind.i64 h b) mv ls s ((i', addW IntKind.i64 h' b, g') :: @List.nil (den SeenT)))
    (safeF h mv ls s ((i', h', g') :: @List.nil (den SeenT)))) (beqB (safeF (addW IntKind.i64 h b) mv ls s ((i', addW IntKind.i64 h' b, g') :: @List.nil (den SeenT)))
    (safeF h mv ls s ((i', h', g') :: @List.nil (den SeenT)))) (need (eqT false false) (eqL false false (AOut.ret (AV.bool false) = AOut.ret (AV.bool true)))))))))))))))))))))))))))))))))))))))))))))))))))))))))))))))))))))))))))))))))))
    (eqL (eqB (senseF i (addW IntKind.i64 h b) i' (addW IntKind.i64 h' b) al) (senseF i h i' h' al)) (eqB (senseF i (addW IntKind.i64 h b) i' (addW IntKind.i64 h' b)
    al) (senseF i h i' h' al)) (eqL (eqB (senseF i (addW IntKind.i64 h b) i' (addW IntKind.i64 h' b) al) (senseF i h i' h' al)) (eqB (senseF i (addW IntKind.i64 h b)
    i' (addW IntKind.i64 h' b) al) (senseF i h i' h' al)) (eqL (eqB (gapF (addW IntKind.i64 h b) (addW IntKind.i64 h' b) g' s) (gapF h h' g' s)) (eqB (gapF (addW IntKind.i64
    h b) (addW IntKind.i64 h' b) g' s) (gapF h h' g' s)) (eqL (eqB (gapF (addW IntKind.i64 h b) (addW IntKind.i64 h' b) g' s) (gapF h h' g' s)) (eqB (gapF (addW IntKind.i64
    h b) (addW IntKind.i64 h' b) g' s) (gapF h h' g' s)) (eqI i i (eqI (addW IntKind.i64 h b) (addW IntKind.i64 h b) (eqI g g (eqI mv mv (eqI ls ls (eqI s s (eqI i'
    i' (eqI (addW IntKind.i64 h' b) (addW IntKind.i64 h' b) (eqI g' g' (eqI i i (eqI h h (eqI g g (eqI mv mv (eqI ls ls (eqI s s (eqL (eqB (senseF i (addW IntKind.i64
    h b) i' (addW IntKind.i64 h' b) al) (senseF i h i' h' al)) (eqB (senseF i (addW IntKind.i64 h b) i' (addW IntKind.i64 h' b) al) (senseF i h i' h' al)) (eqL (eqB
    (senseF i (addW IntKind.i64 h b) i' (addW IntKind.i64 h' b) al) (senseF i h i' h' al)) (eqB (senseF i (addW IntKind.i64 h b) i' (addW IntKind.i64 h' b) al) (senseF
    i h i' h' al)) (eqL (eqB (gapF (addW IntKind.i64 h b) (addW IntKind.i64 h' b) g' s) (gapF h h' g' s)) (eqB (gapF (addW IntKind.i64 h b) (addW IntKind.i64 h' b) g'
    s) (gapF h h' g' s)) (eqL (eqB (gapF (addW IntKind.i64 h b) (addW IntKind.i64 h' b) g' s) (gapF h h' g' s)) (eqB (gapF (addW IntKind.i64 h b) (addW IntKind.i64 h'
    b) g' s) (gapF h h' g' s)) (eqI i i (eqI (addW IntKind.i64 h b) (addW IntKind.i64 h b) (eqI g g (eqI mv mv (eqI ls ls (eqI s s (eqI i i (eqI h h (eqI g g (eqI mv
    mv (eqI ls ls (eqI s s (need (lenOK (lenI ((i', addW IntKind.i64 h' b, g') :: @List.nil (den SeenT)))) (need (rI (addW IntKind.i64 h b)) (need (rI mv) (need (rI
    ls) (need (rI s) (need (rIs ((i', addW IntKind.i64 h' b, g') :: @List.nil (den SeenT))) (eqL (eqB (senseF i (addW IntKind.i64 h b) i' (addW IntKind.i64 h' b) al)
    (senseF i h i' h' al)) (eqB (senseF i (addW IntKind.i64 h b) i' (addW IntKind.i64 h' b) al) (senseF i h i' h' al)) (eqL (eqB (senseF i (addW IntKind.i64 h b) i'
    (addW IntKind.i64 h' b) al) (senseF i h i' h' al)) (eqB (senseF i (addW IntKind.i64 h b) i' (addW IntKind.i64 h' b) al) (senseF i h i' h' al)) (eqL (eqB (gapF (addW
    IntKind.i64 h b) (addW IntKind.i64 h' b) g' s) (gapF h h' g' s)) (eqB (gapF (addW IntKind.i64 h b) (addW IntKind.i64 h' b) g' s) (gapF h h' g' s)) (eqL (eqB (gapF
    (addW IntKind.i64 h b) (addW IntKind.i64 h' b) g' s) (gapF h h' g' s)) (eqB (gapF (addW IntKind.i64 h b) (addW IntKind.i64 h' b) g' s) (gapF h h' g' s)) (eqI i i
    (eqI h h (eqI g g (eqI mv mv (eqI ls ls (eqI s s (need (lenOK (lenI ((i', h', g') :: @List.nil (den SeenT)))) (need (rI h) (need (rI mv) (need (rI ls) (need (rI
    s) (need (rIs ((i', h', g') :: @List.nil (den SeenT))) (ifB (beqB (safeF (addW IntKind.i64 h b) mv ls s ((i', addW IntKind.i64 h' b, g') :: @List.nil (den SeenT)))
    (safeF h mv ls s ((i', h', g') :: @List.nil (den SeenT)))) (eqL (eqB (senseF i (addW IntKind.i64 h b) i' (addW IntKind.i64 h' b) al) (senseF i h i' h' al)) (eqB
    (senseF i (addW IntKind.i64 h b) i' (addW IntKind.i64 h' b) al) (senseF i h i' h' al)) (eqL (eqB (senseF i (addW IntKind.i64 h b) i' (addW IntKind.i64 h' b) al)
    (senseF i h i' h' al)) (eqB (senseF i (addW IntKind.i64 h b) i' (addW IntKind.i64 h' b) al) (senseF i h i' h' al)) (eqL (eqB (gapF (addW IntKind.i64 h b) (addW IntKind.i64
    h' b) g' s) (gapF h h' g' s)) (eqB (gapF (addW IntKind.i64 h b) (addW IntKind.i64 h' b) g' s) (gapF h h' g' s)) (eqL (eqB (gapF (addW IntKind.i64 h b) (addW IntKind.i64
    h' b) g' s) (gapF h h' g' s)) (eqB (gapF (addW IntKind.i64 h b) (addW IntKind.i64 h' b) g' s) (gapF h h' g' s)) (eqL (beqB (safeF (addW IntKind.i64 h b) mv ls s
    ((i', addW IntKind.i64 h' b, g') :: @List.nil (den SeenT))) (safeF h mv ls s ((i', h', g') :: @List.nil (den SeenT)))) (beqB (safeF (addW IntKind.i64 h b) mv ls
    s ((i', addW IntKind.i64 h' b, g') :: @List.nil (den SeenT))) (safeF h mv ls s ((i', h', g') :: @List.nil (den SeenT)))) (eqL (beqB (safeF (addW IntKind.i64 h b)
    mv ls s ((i', addW IntKind.i64 h' b, g') :: @List.nil (den SeenT))) (safeF h mv ls s ((i', h', g') :: @List.nil (den SeenT)))) (beqB (safeF (addW IntKind.i64 h b)
    mv ls s ((i', addW IntKind.i64 h' b, g') :: @List.nil (den SeenT))) (safeF h mv ls s ((i', h', g') :: @List.nil (den SeenT)))) (eqL (beqB (safeF (addW IntKind.i64
    h b) mv ls s ((i', addW IntKind.i64 h' b, g') :: @List.nil (den SeenT))) (safeF h mv ls s ((i', h', g') :: @List.nil (den SeenT)))) true (eqI i i (eqI h h (eqI g
    g (eqI i' i' (eqI h' h' (eqI g' g' (eqI s s (eqI h' h' (eqI 0 0 (eqI h' h' (eqI 0 0 (eqI h h (eqI g' g' (eqI 0 0 (eqI h h (eqI g' g' (eqI s s (need (rI h) (need
    (rI h') (need (rI g') (need (rI s) (eqL (eqB (senseF i (addW IntKind.i64 h b) i' (addW IntKind.i64 h' b) al) (senseF i h i' h' al)) (eqB (senseF i (addW IntKind.i64
    h b) i' (addW IntKind.i64 h' b) al) (senseF i h i' h' al)) (eqL (eqB (senseF i (addW IntKind.i64 h b) i' (addW IntKind.i64 h' b) al) (senseF i h i' h' al)) (eqB
    (senseF i (addW IntKind.i64 h b) i' (addW IntKind.i64 h' b) al) (senseF i h i' h' al)) (eqL (eqB (gapF (addW IntKind.i64 h b) (addW IntKind.i64 h' b) g' s) (gapF
    h h' g' s)) (eqB (gapF (addW IntKind.i64 h b) (addW IntKind.i64 h' b) g' s) (gapF h h' g' s)) (eqL (eqB (gapF (addW IntKind.i64 h b) (addW IntKind.i64 h' b) g' s)
    (gapF h h' g' s)) (eqB (gapF (addW IntKind.i64 h b) (addW IntKind.i64 h' b) g' s) (gapF h h' g' s)) (eqL (beqB (safeF (addW IntKind.i64 h b) mv ls s ((i', addW IntKind.i64
    h' b, g') :: @List.nil (den SeenT))) (safeF h mv ls s ((i', h', g') :: @List.nil (den SeenT)))) (beqB (safeF (addW IntKind.i64 h b) mv ls s ((i', addW IntKind.i64
    h' b, g') :: @List.nil (den SeenT))) (safeF h mv ls s ((i', h', g') :: @List.nil (den SeenT)))) (eqL (beqB (safeF (addW IntKind.i64 h b) mv ls s ((i', addW IntKind.i64
    h' b, g') :: @List.nil (den SeenT))) (safeF h mv ls s ((i', h', g') :: @List.nil (den SeenT)))) (beqB (safeF (addW IntKind.i64 h b) mv ls s ((i', addW IntKind.i64
    h' b, g') :: @List.nil (den SeenT))) (safeF h mv ls s ((i', h', g') :: @List.nil (den SeenT)))) (eqI h' h' (eqI 0 0 (eqI h' h' (eqI 0 0 (eqI h h (eqI g' g' (eqI
    0 0 (eqI h h (eqI g' g' (eqI s s (need (rI h') (need (rI h) (need (rI g') (need (rI s) (eqL (eqB (senseF i (addW IntKind.i64 h b) i' (addW IntKind.i64 h' b) al)
    (senseF i h i' h' al)) (eqB (senseF i (addW IntKind.i64 h b) i' (addW IntKind.i64 h' b) al) (senseF i h i' h' al)) (eqL (eqB (senseF i (addW IntKind.i64 h b) i'
    (addW IntKind.i64 h' b) al) (senseF i h i' h' al)) (eqB (senseF i (addW IntKind.i64 h b) i' (addW IntKind.i64 h' b) al) (senseF i h i' h' al)) (eqL (eqB (gapF (addW
    IntKind.i64 h b) (addW IntKind.i64 h' b) g' s) (gapF h h' g' s)) (eqB (gapF (addW IntKind.i64 h b) (addW IntKind.i64 h' b) g' s) (gapF h h' g' s)) (eqL (eqB (gapF
    (addW IntKind.i64 h b) (addW IntKind.i64 h' b) g' s) (gapF h h' g' s)) (eqB (gapF (addW IntKind.i64 h b) (addW IntKind.i64 h' b) g' s) (gapF h h' g' s)) (eqL (beqB
    (safeF (addW IntKind.i64 h b) mv ls s ((i', addW IntKind.i64 h' b, g') :: @List.nil (den SeenT))) (safeF h mv ls s ((i', h', g') :: @List.nil (den SeenT)))) (beqB
    (safeF (addW IntKind.i64 h b) mv ls s ((i', addW IntKind.i64 h' b, g') :: @List.nil (den SeenT))) (safeF h mv ls s ((i', h', g') :: @List.nil (den SeenT)))) (eqL
    (beqB (safeF (addW IntKind.i64 h b) mv ls s ((i', addW IntKind.i64 h' b, g') :: @List.nil (den SeenT))) (safeF h mv ls s ((i', h', g') :: @List.nil (den SeenT))))
    (beqB (safeF (addW IntKind.i64 h b) mv ls s ((i', addW IntKind.i64 h' b, g') :: @List.nil (den SeenT))) (safeF h mv ls s ((i', h', g') :: @List.nil (den SeenT))))
    (eqI h' h' (eqI h h (eqI g' g' (eqL (eqB (gapF h h' g' s) (gapF h' h g' s)) (eqB (gapF h h' g' s) (gapF h' h g' s)) (eqL (eqB (gapF h h' g' s) (gapF h' h g' s))
    (eqB (gapF h h' g' s) (gapF h' h g' s)) (AOut.ret (AV.bool (eqB (gapF h h' g' s) (gapF h' h g' s))) = AOut.ret (AV.bool true)))))))))))))))))))))))))))))))))))))))))))))))))))))))))))))
    (eqL (eqB (senseF i (addW IntKind.i64 h b) i' (addW IntKind.i64 h' b) al) (senseF i h i' h' al)) (eqB (senseF i (addW IntKind.i64 h b) i' (addW IntKind.i64 h' b)
    al) (senseF i h i' h' al)) (eqL (eqB (senseF i (addW IntKind.i64 h b) i' (addW IntKind.i64 h' b) al) (senseF i h i' h' al)) (eqB (senseF i (addW IntKind.i64 h b)
    i' (addW IntKind.i64 h' b) al) (senseF i h i' h' al)) (eqL (eqB (gapF (addW IntKind.i64 h b) (addW IntKind.i64 h' b) g' s) (gapF h h' g' s)) (eqB (gapF (addW IntKind.i64
    h b) (addW IntKind.i64 h' b) g' s) (gapF h h' g' s)) (eqL (eqB (gapF (addW IntKind.i64 h b) (addW IntKind.i64 h' b) g' s) (gapF h h' g' s)) (eqB (gapF (addW IntKind.i64
    h b) (addW IntKind.i64 h' b) g' s) (gapF h h' g' s)) (eqL (beqB (safeF (addW IntKind.i64 h b) mv ls s ((i', addW IntKind.i64 h' b, g') :: @List.nil (den SeenT)))
    (safeF h mv ls s ((i', h', g') :: @List.nil (den SeenT)))) (beqB (safeF (addW IntKind.i64 h b) mv ls s ((i', addW IntKind.i64 h' b, g') :: @List.nil (den SeenT)))
    (safeF h mv ls s ((i', h', g') :: @List.nil (den SeenT)))) (eqL (beqB (safeF (addW IntKind.i64 h b) mv ls s ((i', addW IntKind.i64 h' b, g') :: @List.nil (den SeenT)))
    (safeF h mv ls s ((i', h', g') :: @List.nil (den SeenT)))) (beqB (safeF (addW IntKind.i64 h b) mv ls s ((i', addW IntKind.i64 h' b, g') :: @List.nil (den SeenT)))
    (safeF h mv ls s ((i', h', g') :: @List.nil (den SeenT)))) (eqL (beqB (safeF (addW IntKind.i64 h b) mv ls s ((i', addW IntKind.i64 h' b, g') :: @List.nil (den SeenT)))
    (safeF h mv ls s ((i', h', g') :: @List.nil (den SeenT)))) false (eqL (eqB (senseF i (addW IntKind.i64 h b) i' (addW IntKind.i64 h' b) al) (senseF i h i' h' al))
    (eqB (senseF i (addW IntKind.i64 h b) i' (addW IntKind.i64 h' b) al) (senseF i h i' h' al)) (eqL (eqB (senseF i (addW IntKind.i64 h b) i' (addW IntKind.i64 h' b)
    al) (senseF i h i' h' al)) (eqB (senseF i (addW IntKind.i64 h b) i' (addW IntKind.i64 h' b) al) (senseF i h i' h' al)) (eqL (eqB (gapF (addW IntKind.i64 h b) (addW
    IntKind.i64 h' b) g' s) (gapF h h' g' s)) (eqB (gapF (addW IntKind.i64 h b) (addW IntKind.i64 h' b) g' s) (gapF h h' g' s)) (eqL (eqB (gapF (addW IntKind.i64 h b)
    (addW IntKind.i64 h' b) g' s) (gapF h h' g' s)) (eqB (gapF (addW IntKind.i64 h b) (addW IntKind.i64 h' b) g' s) (gapF h h' g' s)) (eqL (beqB (safeF (addW IntKind.i64
    h b) mv ls s ((i', addW IntKind.i64 h' b, g') :: @List.nil (den SeenT))) (safeF h mv ls s ((i', h', g') :: @List.nil (den SeenT)))) (beqB (safeF (addW IntKind.i64
    h b) mv ls s ((i', addW IntKind.i64 h' b, g') :: @List.nil (den SeenT))) (safeF h mv ls s ((i', h', g') :: @List.nil (den SeenT)))) (eqL (beqB (safeF (addW IntKind.i64
    h b) mv ls s ((i', addW IntKind.i64 h' b, g') :: @List.nil (den SeenT))) (safeF h mv ls s ((i', h', g') :: @List.nil (den SeenT)))) (beqB (safeF (addW IntKind.i64
    h b) mv ls s ((i', addW IntKind.i64 h' b, g') :: @List.nil (den SeenT))) (safeF h mv ls s ((i', h', g') :: @List.nil (den SeenT)))) (need (eqT false false) (eqL
    (eqB (senseF i (addW IntKind.i64 h b) i' (addW IntKind.i64 h' b) al) (senseF i h i' h' al)) (eqB (senseF i (addW IntKind.i64 h b) i' (addW IntKind.i64 h' b) al)
    (senseF i h i' h' al)) (eqL (eqB (senseF i (addW IntKind.i64 h b) i' (addW IntKind.i64 h' b) al) (senseF i h i' h' al)) (eqB (senseF i (addW IntKind.i64 h b) i'
    (addW IntKind.i64 h' b) al) (senseF i h i' h' al)) (eqL (eqB (gapF (addW IntKind.i64 h b) (addW IntKind.i64 h' b) g' s) (gapF h h' g' s)) (eqB (gapF (addW IntKind.i64
    h b) (addW IntKind.i64 h' b) g' s) (gapF h h' g' s)) (eqL (eqB (gapF (addW IntKind.i64 h b) (addW IntKind.i64 h' b) g' s) (gapF h h' g' s)) (eqB (gapF (addW IntKind.i64
    h b) (addW IntKind.i64 h' b) g' s) (gapF h h' g' s)) (eqL (beqB (safeF (addW IntKind.i64 h b) mv ls s ((i', addW IntKind.i64 h' b, g') :: @List.nil (den SeenT)))
    (safeF h mv ls s ((i', h', g') :: @List.nil (den SeenT)))) (beqB (safeF (addW IntKind.i64 h b) mv ls s ((i', addW IntKind.i64 h' b, g') :: @List.nil (den SeenT)))
    (safeF h mv ls s ((i', h', g') :: @List.nil (den SeenT)))) (eqL (beqB (safeF (addW IntKind.i64 h b) mv ls s ((i', addW IntKind.i64 h' b, g') :: @List.nil (den SeenT)))
    (safeF h mv ls s ((i', h', g') :: @List.nil (den SeenT)))) (beqB (safeF (addW IntKind.i64 h b) mv ls s ((i', addW IntKind.i64 h' b, g') :: @List.nil (den SeenT)))
    (safeF h mv ls s ((i', h', g') :: @List.nil (den SeenT)))) (need (eqT false false) (eqL false false (AOut.ret (AV.bool false) = AOut.ret (AV.bool true))))))))))))))))))))))))))))))))))))))))))))))))))))))))))))))))))))))))))))))))))))))))))))))))))))))))))
    (eqL (eqB (senseF i (addW IntKind.i64 h b) i' (addW IntKind.i64 h' b) al) (senseF i h i' h' al)) (eqB (senseF i (addW IntKind.i64 h b) i' (addW IntKind.i64 h' b)
    al) (senseF i h i' h' al)) (eqL (eqB (senseF i (addW IntKind.i64 h b) i' (addW IntKind.i64 h' b) al) (senseF i h i' h' al)) (eqB (senseF i (addW IntKind.i64 h b)
    i' (addW IntKind.i64 h' b) al) (senseF i h i' h' al)) (eqL (eqB (gapF (addW IntKind.i64 h b) (addW IntKind.i64 h' b) g' s) (gapF h h' g' s)) (eqB (gapF (addW IntKind.i64
    h b) (addW IntKind.i64 h' b) g' s) (gapF h h' g' s)) (eqL (eqB (gapF (addW IntKind.i64 h b) (addW IntKind.i64 h' b) g' s) (gapF h h' g' s)) (eqB (gapF (addW IntKind.i64
    h b) (addW IntKind.i64 h' b) g' s) (gapF h h' g' s)) (eqL (eqB (gapF (addW IntKind.i64 h b) (addW IntKind.i64 h' b) g' s) (gapF h h' g' s)) false (need (eqL (eqB
    (senseF i (addW IntKind.i64 h b) i' (addW IntKind.i64 h' b) al) (senseF i h i' h' al)) (eqB (senseF i (addW IntKind.i64 h b) i' (addW IntKind.i64 h' b) al) (senseF
    i h i' h' al)) (eqL (eqB (senseF i (addW IntKind.i64 h b) i' (addW IntKind.i64 h' b) al) (senseF i h i' h' al)) (eqB (senseF i (addW IntKind.i64 h b) i' (addW IntKind.i64
    h' b) al) (senseF i h i' h' al)) (eqL (eqB (gapF (addW IntKind.i64 h b) (addW IntKind.i64 h' b) g' s) (gapF h h' g' s)) (eqB (gapF (addW IntKind.i64 h b) (addW IntKind.i64
    h' b) g' s) (gapF h h' g' s)) (eqL (eqB (gapF (addW IntKind.i64 h b) (addW IntKind.i64 h' b) g' s) (gapF h h' g' s)) (eqB (gapF (addW IntKind.i64 h b) (addW IntKind.i64
    h' b) g' s) (gapF h h' g' s)) (need (eqL (eqB (senseF i (addW IntKind.i64 h b) i' (addW IntKind.i64 h' b) al) (senseF i h i' h' al)) (eqB (senseF i (addW IntKind.i64
    h b) i' (addW IntKind.i64 h' b) al) (senseF i h i' h' al)) (eqL (eqB (senseF i (addW IntKind.i64 h b) i' (addW IntKind.i64 h' b) al) (senseF i h i' h' al)) (eqB
    (senseF i (addW IntKind.i64 h b) i' (addW IntKind.i64 h' b) al) (senseF i h i' h' al)) (eqL (eqB (gapF (addW IntKind.i64 h b) (addW IntKind.i64 h' b) g' s) (gapF
    h h' g' s)) (eqB (gapF (addW IntKind.i64 h b) (addW IntKind.i64 h' b) g' s) (gapF h h' g' s)) (eqL (eqB (gapF (addW IntKind.i64 h b) (addW IntKind.i64 h' b) g' s)
    (gapF h h' g' s)) (eqB (gapF (addW IntKind.i64 h b) (addW IntKind.i64 h' b) g' s) (gapF h h' g' s)) (eqL (eqB (senseF i (addW IntKind.i64 h b) i' (addW IntKind.i64
    h' b) al) (senseF i h i' h' al)) (eqB (senseF i (addW IntKind.i64 h b) i' (addW IntKind.i64 h' b) al) (senseF i h i' h' al)) (eqL (eqB (senseF i (addW IntKind.i64
    h b) i' (addW IntKind.i64 h' b) al) (senseF i h i' h' al)) (eqB (senseF i (addW IntKind.i64 h b) i' (addW IntKind.i64 h' b) al) (senseF i h i' h' al)) (eqL (eqB
    (gapF (addW IntKind.i64 h b) (addW IntKind.i64 h' b) g' s) (gapF h h' g' s)) (eqB (gapF (addW IntKind.i64 h b) (addW IntKind.i64 h' b) g' s) (gapF h h' g' s)) (eqL
    (eqB (gapF (addW IntKind.i64 h b) (addW IntKind.i64 h' b) g' s) (gapF h h' g' s)) (eqB (gapF (addW IntKind.i64 h b) (addW IntKind.i64 h' b) g' s) (gapF h h' g' s))
    (need (eqT false false) (eqL (eqB (senseF i (addW IntKind.i64 h b) i' (addW IntKind.i64 h' b) al) (senseF i h i' h' al)) (eqB (senseF i (addW IntKind.i64 h b) i'
    (addW IntKind.i64 h' b) al) (senseF i h i' h' al)) (eqL (eqB (senseF i (addW IntKind.i64 h b) i' (addW IntKind.i64 h' b) al) (senseF i h i' h' al)) (eqB (senseF
    i (addW IntKind.i64 h b) i' (addW IntKind.i64 h' b) al) (senseF i h i' h' al)) (eqL (eqB (gapF (addW IntKind.i64 h b) (addW IntKind.i64 h' b) g' s) (gapF h h' g'
    s)) (eqB (gapF (addW IntKind.i64 h b) (addW IntKind.i64 h' b) g' s) (gapF h h' g' s)) (eqL (eqB (gapF (addW IntKind.i64 h b) (addW IntKind.i64 h' b) g' s) (gapF
    h h' g' s)) (eqB (gapF (addW IntKind.i64 h b) (addW IntKind.i64 h' b) g' s) (gapF h h' g' s)) (need (eqT false false) (eqL false false (eqL false false (eqL (eqB
    (senseF i (addW IntKind.i64 h b) i' (addW IntKind.i64 h' b) al) (senseF i h i' h' al)) (eqB (senseF i (addW IntKind.i64 h b) i' (addW IntKind.i64 h' b) al) (senseF
    i h i' h' al)) (eqL (eqB (senseF i (addW IntKind.i64 h b) i' (addW IntKind.i64 h' b) al) (senseF i h i' h' al)) (eqB (senseF i (addW IntKind.i64 h b) i' (addW IntKind.i64
    h' b) al) (senseF i h i' h' al)) (eqL (eqB (gapF (addW IntKind.i64 h b) (addW IntKind.i64 h' b) g' s) (gapF h h' g' s)) (eqB (gapF (addW IntKind.i64 h b) (addW IntKind.i64
    h' b) g' s) (gapF h h' g' s)) (eqL (eqB (gapF (addW IntKind.i64 h b) (addW IntKind.i64 h' b) g' s) (gapF h h' g' s)) (eqB (gapF (addW IntKind.i64 h b) (addW IntKind.i64
    h' b) g' s) (gapF h h' g' s)) (need (eqT false false) (eqL false false (need (eqT false false) (eqL (eqB (senseF i (addW IntKind.i64 h b) i' (addW IntKind.i64 h'
    b) al) (senseF i h i' h' al)) (eqB (senseF i (addW IntKind.i64 h b) i' (addW IntKind.i64 h' b) al) (senseF i h i' h' al)) (eqL (eqB (senseF i (addW IntKind.i64 h
    b) i' (addW IntKind.i64 h' b) al) (senseF i h i' h' al)) (eqB (senseF i (addW IntKind.i64 h b) i' (addW IntKind.i64 h' b) al) (senseF i h i' h' al)) (eqL (eqB (gapF
    (addW IntKind.i64 h b) (addW IntKind.i64 h' b) g' s) (gapF h h' g' s)) (eqB (gapF (addW IntKind.i64 h b) (addW IntKind.i64 h' b) g' s) (gapF h h' g' s)) (eqL (eqB
    (gapF (addW IntKind.i64 h b) (addW IntKind.i64 h' b) g' s) (gapF h h' g' s)) (eqB (gapF (addW IntKind.i64 h b) (addW IntKind.i64 h' b) g' s) (gapF h h' g' s)) (need
    (eqT false false) (eqL false false (need (eqT false false) (eqL false false (AOut.ret (AV.bool false) = AOut.ret (AV.bool true))))))))))))))))))))))))))))))))) (eqL
    (eqB (senseF i (addW IntKind.i64 h b) i' (addW IntKind.i64 h' b) al) (senseF i h i' h' al)) (eqB (senseF i (addW IntKind.i64 h b) i' (addW IntKind.i64 h' b) al)
    (senseF i h i' h' al)) (eqL (eqB (senseF i (addW IntKind.i64 h b) i' (addW IntKind.i64 h' b) al) (senseF i h i' h' al)) (eqB (senseF i (addW IntKind.i64 h b) i'
    (addW IntKind.i64 h' b) al) (senseF i h i' h' al)) (eqL (eqB (gapF (addW IntKind.i64 h b) (addW IntKind.i64 h' b) g' s) (gapF h h' g' s)) (eqB (gapF (addW IntKind.i64
    h b) (addW IntKind.i64 h' b) g' s) (gapF h h' g' s)) (eqL (eqB (gapF (addW IntKind.i64 h b) (addW IntKind.i64 h' b) g' s) (gapF h h' g' s)) (eqB (gapF (addW IntKind.i64
    h b) (addW IntKind.i64 h' b) g' s) (gapF h h' g' s)) (eqL (eqB (senseF i (addW IntKind.i64 h b) i' (addW IntKind.i64 h' b) al) (senseF i h i' h' al)) (eqB (senseF
    i (addW IntKind.i64 h b) i' (addW IntKind.i64 h' b) al) (senseF i h i' h' al)) (eqL (eqB (senseF i (addW IntKind.i64 h b) i' (addW IntKind.i64 h' b) al) (senseF
    i h i' h' al)) (eqB (senseF i (addW IntKind.i64 h b) i' (addW IntKind.i64 h' b) al) (senseF i h i' h' al)) (eqL (eqB (gapF (addW IntKind.i64 h b) (addW IntKind.i64
    h' b) g' s) (gapF h h' g' s)) (eqB (gapF (addW IntKind.i64 h b) (addW IntKind.i64 h' b) g' s) (gapF h h' g' s)) (eqL (eqB (gapF (addW IntKind.i64 h b) (addW IntKind.i64
    h' b) g' s) (gapF h h' g' s)) (eqB (gapF (addW IntKind.i64 h b) (addW IntKind.i64 h' b) g' s) (gapF h h' g' s)) (need (eqT false false) (eqL (eqB (senseF i (addW
    IntKind.i64 h b) i' (addW IntKind.i64 h' b) al) (senseF i h i' h' al)) (eqB (senseF i (addW IntKind.i64 h b) i' (addW IntKind.i64 h' b) al) (senseF i h i' h' al))
    (eqL (eqB (senseF i (addW IntKind.i64 h b) i' (addW IntKind.i64 h' b) al) (senseF i h i' h' al)) (eqB (senseF i (addW IntKind.i64 h b) i' (addW IntKind.i64 h' b)
    al) (senseF i h i' h' al)) (eqL (eqB (gapF (addW IntKind.i64 h b) (addW IntKind.i64 h' b) g' s) (gapF h h' g' s)) (eqB (gapF (addW IntKind.i64 h b) (addW IntKind.i64
    h' b) g' s) (gapF h h' g' s)) (eqL (eqB (gapF (addW IntKind.i64 h b) (addW IntKind.i64 h' b) g' s) (gapF h h' g' s)) (eqB (gapF (addW IntKind.i64 h b) (addW IntKind.i64
    h' b) g' s) (gapF h h' g' s)) (need (eqT false false) (eqL false false (eqL false false (eqL (eqB (senseF i (addW IntKind.i64 h b) i' (addW IntKind.i64 h' b) al)
    (senseF i h i' h' al)) (eqB (senseF i (addW IntKind.i64 h b) i' (addW IntKind.i64 h' b) al) (senseF i h i' h' al)) (eqL (eqB (senseF i (addW IntKind.i64 h b) i'
    (addW IntKind.i64 h' b) al) (senseF i h i' h' al)) (eqB (senseF i (addW IntKind.i64 h b) i' (addW IntKind.i64 h' b) al) (senseF i h i' h' al)) (eqL (eqB (gapF (addW
    IntKind.i64 h b) (addW IntKind.i64 h' b) g' s) (gapF h h' g' s)) (eqB (gapF (addW IntKind.i64 h b) (addW IntKind.i64 h' b) g' s) (gapF h h' g' s)) (eqL (eqB (gapF
    (addW IntKind.i64 h b) (addW IntKind.i64 h' b) g' s) (gapF h h' g' s)) (eqB (gapF (addW IntKind.i64 h b) (addW IntKind.i64 h' b) g' s) (gapF h h' g' s)) (need (eqT
    false false) (eqL false false (need (eqT false false) (eqL (eqB (senseF i (addW IntKind.i64 h b) i' (addW IntKind.i64 h' b) al) (senseF i h i' h' al)) (eqB (senseF
    i (addW IntKind.i64 h b) i' (addW IntKind.i64 h' b) al) (senseF i h i' h' al)) (eqL (eqB (senseF i (addW IntKind.i64 h b) i' (addW IntKind.i64 h' b) al) (senseF
    i h i' h' al)) (eqB (senseF i (addW IntKind.i64 h b) i' (addW IntKind.i64 h' b) al) (senseF i h i' h' al)) (eqL (eqB (gapF (addW IntKind.i64 h b) (addW IntKind.i64
    h' b) g' s) (gapF h h' g' s)) (eqB (gapF (addW IntKind.i64 h b) (addW IntKind.i64 h' b) g' s) (gapF h h' g' s)) (eqL (eqB (gapF (addW IntKind.i64 h b) (addW IntKind.i64
    h' b) g' s) (gapF h h' g' s)) (eqB (gapF (addW IntKind.i64 h b) (addW IntKind.i64 h' b) g' s) (gapF h h' g' s)) (need (eqT false false) (eqL false false (need (eqT
    false false) (eqL false false (AOut.ret (AV.bool false) = AOut.ret (AV.bool true)))))))))))))))))))))))))))))))))))))) (eqL (eqB (senseF i (addW IntKind.i64 h b)
    i' (addW IntKind.i64 h' b) al) (senseF i h i' h' al)) (eqB (senseF i (addW IntKind.i64 h b) i' (addW IntKind.i64 h' b) al) (senseF i h i' h' al)) (eqL (eqB (senseF
    i (addW IntKind.i64 h b) i' (addW IntKind.i64 h' b) al) (senseF i h i' h' al)) (eqB (senseF i (addW IntKind.i64 h b) i' (addW IntKind.i64 h' b) al) (senseF i h i'
    h' al)) (eqL (eqB (gapF (addW IntKind.i64 h b) (addW IntKind.i64 h' b) g' s) (gapF h h' g' s)) (eqB (gapF (addW IntKind.i64 h b) (addW IntKind.i64 h' b) g' s) (gapF
    h h' g' s)) (eqL (eqB (gapF (addW IntKind.i64 h b) (addW IntKind.i64 h' b) g' s) (gapF h h' g' s)) (eqB (gapF (addW IntKind.i64 h b) (addW IntKind.i64 h' b) g' s)
    (gapF h h' g' s)) (eqL (eqB (senseF i (addW IntKind.i64 h b) i' (addW IntKind.i64 h' b) al) (senseF i h i' h' al)) (eqB (senseF i (addW IntKind.i64 h b) i' (addW
    IntKind.i64 h' b) al) (senseF i h i' h' al)) (eqL (eqB (senseF i (addW IntKind.i64 h b) i' (addW IntKind.i64 h' b) al) (senseF i h i' h' al)) (eqB (senseF i (addW
    IntKind.i64 h b) i' (addW IntKind.i64 h' b) al) (senseF i h i' h' al)) (eqL (eqB (gapF (addW IntKind.i64 h b) (addW IntKind.i64 h' b) g' s) (gapF h h' g' s)) (eqB
    (gapF (addW IntKind.i64 h b) (addW IntKind.i64 h' b) g' s) (gapF h h' g' s)) (eqL (eqB (gapF (addW IntKind.i64 h b) (addW IntKind.i64 h' b) g' s) (gapF h h' g' s))
    (eqB (gapF (addW IntKind.i64 h b) (addW IntKind.i64 h' b) g' s) (gapF h h' g' s)) (eqL (eqB (senseF i (addW IntKind.i64 h b) i' (addW IntKind.i64 h' b) al) (senseF
    i h i' h' al)) (eqB (senseF i (addW IntKind.i64 h b) i' (addW IntKind.i64 h' b) al) (senseF i h i' h' al)) (eqL (eqB (senseF i (addW IntKind.i64 h b) i' (addW IntKind.i64
    h' b) al) (senseF i h i' h' al)) (eqB (senseF i (addW IntKind.i64 h b) i' (addW IntKind.i64 h' b) al) (senseF i h i' h' al)) (eqL (eqB (gapF (addW IntKind.i64 h
    b) (addW IntKind.i64 h' b) g' s) (gapF h h' g' s)) (eqB (gapF (addW IntKind.i64 h b) (addW IntKind.i64 h' b) g' s) (gapF h h' g' s)) (eqL (eqB (gapF (addW IntKind.i64
    h b) (addW IntKind.i64 h' b) g' s) (gapF h h' g' s)) (eqB (gapF (addW IntKind.i64 h b) (addW IntKind.i64 h' b) g' s) (gapF h h' g' s)) (need (eqT false false) (eqL
    (eqB (senseF i (addW IntKind.i64 h b) i' (addW IntKind.i64 h' b) al) (senseF i h i' h' al)) (eqB (senseF i (addW IntKind.i64 h b) i' (addW IntKind.i64 h' b) al)
    (senseF i h i' h' al)) (eqL (eqB (senseF i (addW IntKind.i64 h b) i' (addW IntKind.i64 h' b) al) (senseF i h i' h' al)) (eqB (senseF i (addW IntKind.i64 h b) i'
    (addW IntKind.i64 h' b) al) (senseF i h i' h' al)) (eqL (eqB (gapF (addW IntKind.i64 h b) (addW IntKind.i64 h' b) g' s) (gapF h h' g' s)) (eqB (gapF (addW IntKind.i64
    h b) (addW IntKind.i64 h' b) g' s) (gapF h h' g' s)) (eqL (eqB (gapF (addW IntKind.i64 h b) (addW IntKind.i64 h' b) g' s) (gapF h h' g' s)) (eqB (gapF (addW IntKind.i64
    h b) (addW IntKind.i64 h' b) g' s) (gapF h h' g' s)) (need (eqT false false) (eqL false false (eqL false false (eqL (eqB (senseF i (addW IntKind.i64 h b) i' (addW
    IntKind.i64 h' b) al) (senseF i h i' h' al)) (eqB (senseF i (addW IntKind.i64 h b) i' (addW IntKind.i64 h' b) al) (senseF i h i' h' al)) (eqL (eqB (senseF i (addW
    IntKind.i64 h b) i' (addW IntKind.i64 h' b) al) (senseF i h i' h' al)) (eqB (senseF i (addW IntKind.i64 h b) i' (addW IntKind.i64 h' b) al) (senseF i h i' h' al))
    (eqL (eqB (gapF (addW IntKind.i64 h b) (addW IntKind.i64 h' b) g' s) (gapF h h' g' s)) (eqB (gapF (addW IntKind.i64 h b) (addW IntKind.i64 h' b) g' s) (gapF h h'
    g' s)) (eqL (eqB (gapF (addW IntKind.i64 h b) (addW IntKind.i64 h' b) g' s) (gapF h h' g' s)) (eqB (gapF (addW IntKind.i64 h b) (addW IntKind.i64 h' b) g' s) (gapF
    h h' g' s)) (need (eqT false false) (eqL false false (need (eqT false false) (eqL (eqB (senseF i (addW IntKind.i64 h b) i' (addW IntKind.i64 h' b) al) (senseF i
    h i' h' al)) (eqB (senseF i (addW IntKind.i64 h b) i' (addW IntKind.i64 h' b) al) (senseF i h i' h' al)) (eqL (eqB (senseF i (addW IntKind.i64 h b) i' (addW IntKind.i64
    h' b) al) (senseF i h i' h' al)) (eqB (senseF i (addW IntKind.i64 h b) i' (addW IntKind.i64 h' b) al) (senseF i h i' h' al)) (eqL (eqB (gapF (addW IntKind.i64 h
    b) (addW IntKind.i64 h' b) g' s) (gapF h h' g' s)) (eqB (gapF (addW IntKind.i64 h b) (addW IntKind.i64 h' b) g' s) (gapF h h' g' s)) (eqL (eqB (gapF (addW IntKind.i64
    h b) (addW IntKind.i64 h' b) g' s) (gapF h h' g' s)) (eqB (gapF (addW IntKind.i64 h b) (addW IntKind.i64 h' b) g' s) (gapF h h' g' s)) (need (eqT false false) (eqL
    false false (need (eqT false false) (eqL false false (AOut.ret (AV.bool false) = AOut.ret (AV.bool true))))))))))))))))))))))))))))))))))))))))))))))))))))))))))))))))))))))))))))))
    (eqL (eqB (senseF i (addW IntKind.i64 h b) i' (addW IntKind.i64 h' b) al) (senseF i h i' h' al)) (eqB (senseF i (addW IntKind.i64 h b) i' (addW IntKind.i64 h' b)
    al) (senseF i h i' h' al)) (eqL (eqB (senseF i (addW IntKind.i64 h b) i' (addW IntKind.i64 h' b) al) (senseF i h i' h' al)) (eqB (senseF i (addW IntKind.i64 h b)
    i' (addW IntKind.i64 h' b) al) (senseF i h i' h' al)) (eqL (eqB (senseF i (addW IntKind.i64 h b) i' (addW IntKind.i64 h' b) al) (senseF i h i' h' al)) false (eqL
    (eqB (senseF i (addW IntKind.i64 h b) i' (addW IntKind.i64 h' b) al) (senseF i h i' h' al)) (eqB (senseF i (addW IntKind.i64 h b) i' (addW IntKind.i64 h' b) al)
    (senseF i h i' h' al)) (eqL (eqB (senseF i (addW IntKind.i64 h b) i' (addW IntKind.i64 h' b) al) (senseF i h i' h' al)) (eqB (senseF i (addW IntKind.i64 h b) i'
    (addW IntKind.i64 h' b) al) (senseF i h i' h' al)) (need (eqT false false) (eqL (eqB (senseF i (addW IntKind.i64 h b) i' (addW IntKind.i64 h' b) al) (senseF i h
    i' h' al)) (eqB (senseF i (addW IntKind.i64 h b) i' (addW IntKind.i64 h' b) al) (senseF i h i' h' al)) (eqL (eqB (senseF i (addW IntKind.i64 h b) i' (addW IntKind.i64
    h' b) al) (senseF i h i' h' al)) (eqB (senseF i (addW IntKind.i64 h b) i' (addW IntKind.i64 h' b) al) (senseF i h i' h' al)) (need (eqT false false) (eqL false false
    (eqL false false (need (eqL (eqB (senseF i (addW IntKind.i64 h b) i' (addW IntKind.i64 h' b) al) (senseF i h i' h' al)) (eqB (senseF i (addW IntKind.i64 h b) i'
    (addW IntKind.i64 h' b) al) (senseF i h i' h' al)) (eqL (eqB (senseF i (addW IntKind.i64 h b) i' (addW IntKind.i64 h' b) al) (senseF i h i' h' al)) (eqB (senseF
    i (addW IntKind.i64 h b) i' (addW IntKind.i64 h' b) al) (senseF i h i' h' al)) (need (eqT false false) (eqL false false (need (eqL (eqB (senseF i (addW IntKind.i64
    h b) i' (addW IntKind.i64 h' b) al) (senseF i h i' h' al)) (eqB (senseF i (addW IntKind.i64 h b) i' (addW IntKind.i64 h' b) al) (senseF i h i' h' al)) (eqL (eqB
    (senseF i (addW IntKind.i64 h b) i' (addW IntKind.i64 h' b) al) (senseF i h i' h' al)) (eqB (senseF i (addW IntKind.i64 h b) i' (addW IntKind.i64 h' b) al) (senseF
    i h i' h' al)) (need (eqT false false) (eqL false false (eqL (eqB (senseF i (addW IntKind.i64 h b) i' (addW IntKind.i64 h' b) al) (senseF i h i' h' al)) (eqB (senseF
    i (addW IntKind.i64 h b) i' (addW IntKind.i64 h' b) al) (senseF i h i' h' al)) (eqL (eqB (senseF i (addW IntKind.i64 h b) i' (addW IntKind.i64 h' b) al) (senseF
    i h i' h' al)) (eqB (senseF i (addW IntKind.i64 h b) i' (addW IntKind.i64 h' b) al) (senseF i h i' h' al)) (need (eqT false false) (eqL false false (need (eqT false
    false) (eqL (eqB (senseF i (addW IntKind.i64 h b) i' (addW IntKind.i64 h' b) al) (senseF i h i' h' al)) (eqB (senseF i (addW IntKind.i64 h b) i' (addW IntKind.i64
    h' b) al) (senseF i h i' h' al)) (eqL (eqB (senseF i (addW IntKind.i64 h b) i' (addW IntKind.i64 h' b) al) (senseF i h i' h' al)) (eqB (senseF i (addW IntKind.i64
    h b) i' (addW IntKind.i64 h' b) al) (senseF i h i' h' al)) (need (eqT false false) (eqL false false (need (eqT false false) (eqL false false (eqL false false (eqL
    (eqB (senseF i (addW IntKind.i64 h b) i' (addW IntKind.i64 h' b) al) (senseF i h i' h' al)) (eqB (senseF i (addW IntKind.i64 h b) i' (addW IntKind.i64 h' b) al)
    (senseF i h i' h' al)) (eqL (eqB (senseF i (addW IntKind.i64 h b) i' (addW IntKind.i64 h' b) al) (senseF i h i' h' al)) (eqB (senseF i (addW IntKind.i64 h b) i'
    (addW IntKind.i64 h' b) al) (senseF i h i' h' al)) (need (eqT false false) (eqL false false (need (eqT false false) (eqL false false (need (eqT false false) (eqL
    (eqB (senseF i (addW IntKind.i64 h b) i' (addW IntKind.i64 h' b) al) (senseF i h i' h' al)) (eqB (senseF i (addW IntKind.i64 h b) i' (addW IntKind.i64 h' b) al)
    (senseF i h i' h' al)) (eqL (eqB (senseF i (addW IntKind.i64 h b) i' (addW IntKind.i64 h' b) al) (senseF i h i' h' al)) (eqB (senseF i (addW IntKind.i64 h b) i'
    (addW IntKind.i64 h' b) al) (senseF i h i' h' al)) (need (eqT false false) (eqL false false (need (eqT false false) (eqL false false (need (eqT false false) (eqL
    false false (AOut.ret (AV.bool false) = AOut.ret (AV.bool true))))))))))))))))))))))))))))))))) (eqL (eqB (senseF i (addW IntKind.i64 h b) i' (addW IntKind.i64 h'
    b) al) (senseF i h i' h' al)) (eqB (senseF i (addW IntKind.i64 h b) i' (addW IntKind.i64 h' b) al) (senseF i h i' h' al)) (eqL (eqB (senseF i (addW IntKind.i64 h
    b) i' (addW IntKind.i64 h' b) al) (senseF i h i' h' al)) (eqB (senseF i (addW IntKind.i64 h b) i' (addW IntKind.i64 h' b) al) (senseF i h i' h' al)) (need (eqT false
    false) (eqL false false (eqL (eqB (senseF i (addW IntKind.i64 h b) i' (addW IntKind.i64 h' b) al) (senseF i h i' h' al)) (eqB (senseF i (addW IntKind.i64 h b) i'
    (addW IntKind.i64 h' b) al) (senseF i h i' h' al)) (eqL (eqB (senseF i (addW IntKind.i64 h b) i' (addW IntKind.i64 h' b) al) (senseF i h i' h' al)) (eqB (senseF
    i (addW IntKind.i64 h b) i' (addW IntKind.i64 h' b) al) (senseF i h i' h' al)) (need (eqT false false) (eqL false false (need (eqT false false) (eqL (eqB (senseF
    i (addW IntKind.i64 h b) i' (addW IntKind.i64 h' b) al) (senseF i h i' h' al)) (eqB (senseF i (addW IntKind.i64 h b) i' (addW IntKind.i64 h' b) al) (senseF i h i'
    h' al)) (eqL (eqB (senseF i (addW IntKind.i64 h b) i' (addW IntKind.i64 h' b) al) (senseF i h i' h' al)) (eqB (senseF i (addW IntKind.i64 h b) i' (addW IntKind.i64
    h' b) al) (senseF i h i' h' al)) (need (eqT false false) (eqL false false (need (eqT false false) (eqL false false (eqL false false (eqL (eqB (senseF i (addW IntKind.i64
    h b) i' (addW IntKind.i64 h' b) al) (senseF i h i' h' al)) (eqB (senseF i (addW IntKind.i64 h b) i' (addW IntKind.i64 h' b) al) (senseF i h i' h' al)) (eqL (eqB
    (senseF i (addW IntKind.i64 h b) i' (addW IntKind.i64 h' b) al) (senseF i h i' h' al)) (eqB (senseF i (addW IntKind.i64 h b) i' (addW IntKind.i64 h' b) al) (senseF
    i h i' h' al)) (need (eqT false false) (eqL false false (need (eqT false false) (eqL false false (need (eqT false false) (eqL (eqB (senseF i (addW IntKind.i64 h
    b) i' (addW IntKind.i64 h' b) al) (senseF i h i' h' al)) (eqB (senseF i (addW IntKind.i64 h b) i' (addW IntKind.i64 h' b) al) (senseF i h i' h' al)) (eqL (eqB (senseF
    i (addW IntKind.i64 h b) i' (addW IntKind.i64 h' b) al) (senseF i h i' h' al)) (eqB (senseF i (addW IntKind.i64 h b) i' (addW IntKind.i64 h' b) al) (senseF i h i'
    h' al)) (need (eqT false false) (eqL false false (need (eqT false false) (eqL false false (need (eqT false false) (eqL false false (AOut.ret (AV.bool false) = AOut.ret
    (AV.bool true)))))))))))))))))))))))))))))))))))))) (eqL (eqB (senseF i (addW IntKind.i64 h b) i' (addW IntKind.i64 h' b) al) (senseF i h i' h' al)) (eqB (senseF
    i (addW IntKind.i64 h b) i' (addW IntKind.i64 h' b) al) (senseF i h i' h' al)) (eqL (eqB (senseF i (addW IntKind.i64 h b) i' (addW IntKind.i64 h' b) al) (senseF
    i h i' h' al)) (eqB (senseF i (addW IntKind.i64 h b) i' (addW IntKind.i64 h' b) al) (senseF i h i' h' al)) (need (eqT false false) (eqL false false (eqL (eqB (senseF
    i (addW IntKind.i64 h b) i' (addW IntKind.i64 h' b) al) (senseF i h i' h' al)) (eqB (senseF i (addW IntKind.i64 h b) i' (addW IntKind.i64 h' b) al) (senseF i h i'
    h' al)) (eqL (eqB (senseF i (addW IntKind.i64 h b) i' (addW IntKind.i64 h' b) al) (senseF i h i' h' al)) (eqB (senseF i (addW IntKind.i64 h b) i' (addW IntKind.i64
    h' b) al) (senseF i h i' h' al)) (need (eqT false false) (eqL false false (eqL (eqB (senseF i (addW IntKind.i64 h b) i' (addW IntKind.i64 h' b) al) (senseF i h i'
    h' al)) (eqB (senseF i (addW IntKind.i64 h b) i' (addW IntKind.i64 h' b) al) (senseF i h i' h' al)) (eqL (eqB (senseF i (addW IntKind.i64 h b) i' (addW IntKind.i64
    h' b) al) (senseF i h i' h' al)) (eqB (senseF i (addW IntKind.i64 h b) i' (addW IntKind.i64 h' b) al) (senseF i h i' h' al)) (need (eqT false false) (eqL false false
    (need (eqT false false) (eqL (eqB (senseF i (addW IntKind.i64 h b) i' (addW IntKind.i64 h' b) al) (senseF i h i' h' al)) (eqB (senseF i (addW IntKind.i64 h b) i'
    (addW IntKind.i64 h' b) al) (senseF i h i' h' al)) (eqL (eqB (senseF i (addW IntKind.i64 h b) i' (addW IntKind.i64 h' b) al) (senseF i h i' h' al)) (eqB (senseF
    i (addW IntKind.i64 h b) i' (addW IntKind.i64 h' b) al) (senseF i h i' h' al)) (need (eqT false false) (eqL false false (need (eqT false false) (eqL false false
    (eqL false false (eqL (eqB (senseF i (addW IntKind.i64 h b) i' (addW IntKind.i64 h' b) al) (senseF i h i' h' al)) (eqB (senseF i (addW IntKind.i64 h b) i' (addW
    IntKind.i64 h' b) al) (senseF i h i' h' al)) (eqL (eqB (senseF i (addW IntKind.i64 h b) i' (addW IntKind.i64 h' b) al) (senseF i h i' h' al)) (eqB (senseF i (addW
    IntKind.i64 h b) i' (addW IntKind.i64 h' b) al) (senseF i h i' h' al)) (need (eqT false false) (eqL false false (need (eqT false false) (eqL false false (need (eqT
    false false) (eqL (eqB (senseF i (addW IntKind.i64 h b) i' (addW IntKind.i64 h' b) al) (senseF i h i' h' al)) (eqB (senseF i (addW IntKind.i64 h b) i' (addW IntKind.i64
    h' b) al) (senseF i h i' h' al)) (eqL (eqB (senseF i (addW IntKind.i64 h b) i' (addW IntKind.i64 h' b) al) (senseF i h i' h' al)) (eqB (senseF i (addW IntKind.i64
    h b) i' (addW IntKind.i64 h' b) al) (senseF i h i' h' al)) (need (eqT false false) (eqL false false (need (eqT false false) (eqL false false (need (eqT false false)
    (eqL false false (AOut.ret (AV.bool false) = AOut.ret (AV.bool true))))))))))))))))))))))))))))))))))))))))))))))))))))))))))))))))))))))))))))))))))))))))))))))))))))) := by kernel_rfl
theorem PairShifted_call : CallOK Try.prog (acall tab fs_alive specs_size fns 100 20) := mkCall fsOK_alive specsOK_size fnsOK
theorem PairShifted_go (i h g i' h' g' b al mv ls s : Int) (w : rI i' ∧ rI h ∧ rI h' ∧ rI g' ∧ rI b ∧ rI al ∧ rI mv ∧ rI ls ∧ rI s) : LawEv (acall tab fs_alive specs_size fns 100 20) 7 [.agg [.int .i64 i, .int .i64 h, .int .i64 g], .agg [.int .i64 i', .int .i64 h', .int .i64 g'], .int .i64 b, .int .i64 al, .int .i64 mv, .int .i64 ls, .int .i64 s] := by
  refine ⟨?_⟩
  rw [PairShifted_eq]
  rw [ifB_def]
  refine ⟨fun _ => rfl, fun hg => ?_⟩
  simp only [selB_t, ltB_def, Bool.or_eq_false_iff, decide_eq_false_iff_not, Int.not_lt] at hg
  obtain ⟨w0, w1, w2, w3, w4, w5, w6, w7, w8⟩ := w
  have ea : addW .i64 h b = h + b := addW64 (by omega) (by omega)
  have eb : addW .i64 h' b = h' + b := addW64 (by omega) (by omega)
  have ra : rI (h + b) := by unfold rI; omega
  have rb : rI (h' + b) := by unfold rI; omega
  have r0 : rI 0 := by unfold rI; omega
  have q1 : rIs [((i', h', g') : den SeenT)] := by unfold rIs; simp [w0, w2, w3]
  have q2 : rIs [((i', h' + b, g') : den SeenT)] := by unfold rIs; simp [w0, rb, w3]
  have lo : ∀ x : den SeenT, lenOK (lenI [x]) := fun _ => by unfold lenOK lenI; simp
  rw [ea, eb]
  have ss := safe_shift i' h mv ls s h' g' b
  rw [ss]
  generalize safeF h mv ls s [((i', h', g') : den SeenT)] = S at *
  simp only [sense_shift, gap_shift, gap_comm h h' g' s, eqB_self, beqB_self]
  simp only [need_def, eqI_def, lo, q1, q2, w1, w2, w3, w4, w5, w6, w7, w8, ra, rb, r0, true_and, and_true]
  simp only [notB_def, ifB_def, eqL_def, eqT_def, Bool.not_true, Bool.not_false, true_and, and_true, implies_true, Bool.false_eq_true, Bool.true_eq_false, false_implies, true_implies, and_self]
theorem PairShifted_ev : ∀ xs : DT [(.prod (.int .i64) (.prod (.int .i64) (.int .i64))), (.prod (.int .i64) (.prod (.int .i64) (.int .i64))), (.int .i64), (.int .i64), (.int .i64), (.int .i64), (.int .i64)], wfs [(.prod (.int .i64) (.prod (.int .i64) (.int .i64))), (.prod (.int .i64) (.prod (.int .i64) (.int .i64))), (.int .i64), (.int .i64), (.int .i64), (.int .i64), (.int .i64)] xs → LawEv (acall tab fs_alive specs_size fns 100 20) 7 (argsA tab #[23, 23, 3, 3, 3, 3, 3].toList [(.prod (.int .i64) (.prod (.int .i64) (.int .i64))), (.prod (.int .i64) (.prod (.int .i64) (.int .i64))), (.int .i64), (.int .i64), (.int .i64), (.int .i64), (.int .i64)] xs) := by
  rintro ⟨⟨i, h, g⟩, ⟨i', h', g'⟩, b, al, mv, ls, s, ⟨⟩⟩ hw
  exact PairShifted_go i h g i' h' g' b al mv ls s ⟨hasI hw.2.1.1, hasI hw.1.2.1, hasI hw.2.1.2.1, hasI hw.2.1.2.2, hasI hw.2.2.1, hasI hw.2.2.2.1, hasI hw.2.2.2.2.1, hasI hw.2.2.2.2.2.1, hasI hw.2.2.2.2.2.2.1⟩



theorem PairShifted_own : ownKnob Try.prog.godebug = none := by kernel_rfl
theorem PairShifted_kids : Kids Try.prog (· < Try.prog.types.size) := kids_rows (by kernel_rfl) (by kernel_rfl)
theorem PairShifted_full : ∀ t e, t < Try.prog.types.size → Try.prog.underlying t = some (.slice e) → 0 < Try.prog.cellsOf e := slices_full_of _ (by kernel_rfl)

theorem PairShifted_lifted (os : Os) (started : os.Started) (H : Type) (enc : TypeId × Value → H) :
    ReturnsInHanded {} Try.checked os 7 .any (Rows.pairShiftedSpec.pre6 enc Try.prog Try.f7 Rows.pairShiftedRow.domain false) (Rows.pairShiftedSpec.post enc Try.prog Try.f7 false true false false) := by
  refine returnsInHanded_of_change_shaped (C := Try.checked) PairShifted_own started (by kernel_rfl) Try.func7
    (ChangeSpec.witness6 (enc := enc) (C := Try.checked) false ⟨#[], #[(Value.agg #[(Value.int IntKind.i64 0), (Value.int IntKind.i64 0), (Value.int IntKind.i64 0)]), (Value.agg #[(Value.int IntKind.i64 0), (Value.int IntKind.i64 0), (Value.int IntKind.i64 0)]), (Value.int IntKind.i64 0), (Value.int IntKind.i64 0), (Value.int IntKind.i64 0), (Value.int IntKind.i64 0), (Value.int IntKind.i64 0)], []⟩ 8 (by kernel_rfl) (by kernel_rfl) (by kernel_rfl) (by kernel_rfl)) ?_
  intro W base args ds gs before hval hW _ hwt _ _
  refine law_contract' (P := Try.prog) (fn := Try.f7) (s := Rows.pairShiftedSpec) (tb := 4) (Ts := [(.prod (.int .i64) (.prod (.int .i64) (.int .i64))), (.prod (.int .i64) (.prod (.int .i64) (.int .i64))), (.int .i64), (.int .i64), (.int .i64), (.int .i64), (.int .i64)]) (call := (acall tab fs_alive specs_size fns 100 20)) (f := 7) tabOK PairShifted_call PairShifted_kids PairShifted_full Try.params7 (by decide +kernel) rfl rfl Try.underlying4 ?_ (by kernel_rfl) PairShifted_ev hval hW hwt
  intro ds hl
  match ds, hl with
  | [d0, d1, d2, d3, d4, d5, d6], _ => rfl

theorem PairShifted_holds : Rows.PairShiftedSaid :=
  OpenClaim.holds_of_wide 7 Try.f7 rfl rfl rfl rfl rfl rfl rfl ⟨rfl, rfl, rfl, rfl, rfl⟩ rfl rfl rfl rfl rfl (by kernel_rfl) Try.func7 (by kernel_rfl)
    (of_decide_eq_true (by kernel_rfl)) (by unfold Func.isWrapper; first | (rw [if_pos (by decide +kernel)]; kernel_rfl) | (rw [if_neg (by decide +kernel)]; exact ⟨rfl, rfl⟩))
    (fun os started H enc _ => PairShifted_lifted os started H enc)

end Go.Proofs.Yticnfdlfhakneaa

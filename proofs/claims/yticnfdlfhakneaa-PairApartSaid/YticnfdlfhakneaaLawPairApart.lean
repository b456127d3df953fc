/- Yticnfdlfhakneaa: the law PairApart returns true for every input, and its arguments read as they did: no condition. -/
import Derived.Test.YticnfdlfhakneaaRows
import Derived.Test.YticnfdlfhakneaaSxV
import Derived.Test.YticnfdlfhakneaaSmPairB
import Derived.HandedShaped
namespace Go.Proofs.Yticnfdlfhakneaa
open Go.ChangeShapes Go.WideShapes Go.ChangeAt Go.RowKit Sx
set_option maxRecDepth 100000
set_option linter.unusedVariables false
set_option linter.unusedSimpArgs false
set_option maxHeartbeats 4000000

theorem hasI {a : Int} (h : IntKind.has .i64 a) : rI a := has64.1 h
theorem apart_spec (x y : Int) : (apartF x y = x - y ∨ apartF x y = y - x) ∧ x - y ≤ apartF x y ∧ y - x ≤ apartF x y := by
  unfold apartF; split <;> omega
theorem safe_one {h mv ls s i' h' g' : Int} (hs : 0 ≤ s) (hg : 0 ≤ g') : safeF h mv ls s [(i', h', g')] = true ↔ apartF mv 0 ≤ s ∧ ls ≤ apartF (h + mv) h' - (s * g' + s) := by
  unfold safeF allRoom roomF
  simp only [List.all_cons, List.all_nil, Bool.and_true, Bool.and_eq_true, decide_eq_true_eq]
  rw [Int.max_eq_left hs, Int.max_eq_left hg, Int.mul_add, Int.mul_one]
theorem heard {b d p : Int} (hb : -1073741824 ≤ b ∧ b ≤ 1073741824) (hp : 0 ≤ p ∧ p ≤ 1000000) : ∃ H, subW .i64 b (min (max d (-p)) p) = H ∧ b - p ≤ H ∧ H ≤ b + p := by
  refine ⟨b - min (max d (-p)) p, subW64 (by omega) (by omega), by omega, by omega⟩
theorem PairApart_eq (a b agoA agoB driftA driftB u v least speed : Int) : acall tab fs_alive specs_size fns 100 20 4 [.int .i64 a, .int .i64 b, .int .i64 agoA, .int .i64 agoB, .int .i64 driftA, .int .i64 driftB, .int .i64 u, .int .i64 v, .int .i64 least, .int .i64 speed] [] (fun o _ _ _ => o = .ret (.bool true)) =
  (ifB (selB (selB (selB (selB (selB (selB (selB (selB (selB (selB (selB (ltB speed 0) true (ltB 1000 speed)) true (ltB least 0)) true (ltB 1000 least)) true (ltB agoA
    0)) true (ltB 1000 agoA)) true (ltB agoB 0)) true (ltB 1000 agoB)) true (ltB 1073741824 a)) true (ltB a (-1073741824))) true (ltB 1073741824 b)) true (ltB b (-1073741824)))
    (AOut.ret (AV.bool true) = AOut.ret (AV.bool true)) (ifB (selB (ltB (subW IntKind.i64 a b) least) (ltB (subW IntKind.i64 b a) least) false) (AOut.ret (AV.bool true)
    = AOut.ret (AV.bool true)) (need (lenOK (lenI ((1, subW IntKind.i64 b (selI (ltB (mulW IntKind.i64 speed agoB) (selI (ltB driftB (mulW IntKind.i64 (subW IntKind.i64
    0 speed) agoB)) (mulW IntKind.i64 (subW IntKind.i64 0 speed) agoB) driftB)) (mulW IntKind.i64 speed agoB) (selI (ltB driftB (mulW IntKind.i64 (subW IntKind.i64 0
    speed) agoB)) (mulW IntKind.i64 (subW IntKind.i64 0 speed) agoB) driftB)), agoB) :: @List.nil (den SeenT)))) (need (rI a) (need (rI u) (need (rI least) (need (rI
    speed) (need (rIs ((1, subW IntKind.i64 b (selI (ltB (mulW IntKind.i64 speed agoB) (selI (ltB driftB (mulW IntKind.i64 (subW IntKind.i64 0 speed) agoB)) (mulW IntKind.i64
    (subW IntKind.i64 0 speed) agoB) driftB)) (mulW IntKind.i64 speed agoB) (selI (ltB driftB (mulW IntKind.i64 (subW IntKind.i64 0 speed) agoB)) (mulW IntKind.i64 (subW
    IntKind.i64 0 speed) agoB) driftB)), agoB) :: @List.nil (den SeenT))) (need (lenOK (lenI ((0, subW IntKind.i64 a (selI (ltB (mulW IntKind.i64 speed agoA) (selI (ltB
    driftA (mulW IntKind.i64 (subW IntKind.i64 0 speed) agoA)) (mulW IntKind.i64 (subW IntKind.i64 0 speed) agoA) driftA)) (mulW IntKind.i64 speed agoA) (selI (ltB driftA
    (mulW IntKind.i64 (subW IntKind.i64 0 speed) agoA)) (mulW IntKind.i64 (subW IntKind.i64 0 speed) agoA) driftA)), agoA) :: @List.nil (den SeenT)))) (need (rI b) (need
    (rI v) (need (rI least) (need (rI speed) (need (rIs ((0, subW IntKind.i64 a (selI (ltB (mulW IntKind.i64 speed agoA) (selI (ltB driftA (mulW IntKind.i64 (subW IntKind.i64
    0 speed) agoA)) (mulW IntKind.i64 (subW IntKind.i64 0 speed) agoA) driftA)) (mulW IntKind.i64 speed agoA) (selI (ltB driftA (mulW IntKind.i64 (subW IntKind.i64 0
    speed) agoA)) (mulW IntKind.i64 (subW IntKind.i64 0 speed) agoA) driftA)), agoA) :: @List.nil (den SeenT))) (need (impB (selB (selB (selB (leB least (subW IntKind.i64
    (selI (safeF a u least speed ((1, subW IntKind.i64 b (selI (ltB (mulW IntKind.i64 speed agoB) (selI (ltB driftB (mulW IntKind.i64 (subW IntKind.i64 0 speed) agoB))
    (mulW IntKind.i64 (subW IntKind.i64 0 speed) agoB) driftB)) (mulW IntKind.i64 speed agoB) (selI (ltB driftB (mulW IntKind.i64 (subW IntKind.i64 0 speed) agoB)) (mulW
    IntKind.i64 (subW IntKind.i64 0 speed) agoB) driftB)), agoB) :: @List.nil (den SeenT))) (addW IntKind.i64 a u) a) (selI (safeF b v least speed ((0, subW IntKind.i64
    a (selI (ltB (mulW IntKind.i64 speed agoA) (selI (ltB driftA (mulW IntKind.i64 (subW IntKind.i64 0 speed) agoA)) (mulW IntKind.i64 (subW IntKind.i64 0 speed) agoA)
    driftA)) (mulW IntKind.i64 speed agoA) (selI (ltB driftA (mulW IntKind.i64 (subW IntKind.i64 0 speed) agoA)) (mulW IntKind.i64 (subW IntKind.i64 0 speed) agoA) driftA)),
    agoA) :: @List.nil (den SeenT))) (addW IntKind.i64 b v) b))) true (leB least (subW IntKind.i64 (selI (safeF b v least speed ((0, subW IntKind.i64 a (selI (ltB (mulW
    IntKind.i64 speed agoA) (selI (ltB driftA (mulW IntKind.i64 (subW IntKind.i64 0 speed) agoA)) (mulW IntKind.i64 (subW IntKind.i64 0 speed) agoA) driftA)) (mulW IntKind.i64
    speed agoA) (selI (ltB driftA (mulW IntKind.i64 (subW IntKind.i64 0 speed) agoA)) (mulW IntKind.i64 (subW IntKind.i64 0 speed) agoA) driftA)), agoA) :: @List.nil
    (den SeenT))) (addW IntKind.i64 b v) b) (selI (safeF a u least speed ((1, subW IntKind.i64 b (selI (ltB (mulW IntKind.i64 speed agoB) (selI (ltB driftB (mulW IntKind.i64
    (subW IntKind.i64 0 speed) agoB)) (mulW IntKind.i64 (subW IntKind.i64 0 speed) agoB) driftB)) (mulW IntKind.i64 speed agoB) (selI (ltB driftB (mulW IntKind.i64 (subW
    IntKind.i64 0 speed) agoB)) (mulW IntKind.i64 (subW IntKind.i64 0 speed) agoB) driftB)), agoB) :: @List.nil (den SeenT))) (addW IntKind.i64 a u) a)))) (leB (subW
    IntKind.i64 (selI (safeF a u least speed ((1, subW IntKind.i64 b (selI (ltB (mulW IntKind.i64 speed agoB) (selI (ltB driftB (mulW IntKind.i64 (subW IntKind.i64 0
    speed) agoB)) (mulW IntKind.i64 (subW IntKind.i64 0 speed) agoB) driftB)) (mulW IntKind.i64 speed agoB) (selI (ltB driftB (mulW IntKind.i64 (subW IntKind.i64 0 speed)
    agoB)) (mulW IntKind.i64 (subW IntKind.i64 0 speed) agoB) driftB)), agoB) :: @List.nil (den SeenT))) (addW IntKind.i64 a u) a) a) speed) false) (leB (subW IntKind.i64
    a (selI (safeF a u least speed ((1, subW IntKind.i64 b (selI (ltB (mulW IntKind.i64 speed agoB) (selI (ltB driftB (mulW IntKind.i64 (subW IntKind.i64 0 speed) agoB))
    (mulW IntKind.i64 (subW IntKind.i64 0 speed) agoB) driftB)) (mulW IntKind.i64 speed agoB) (selI (ltB driftB (mulW IntKind.i64 (subW IntKind.i64 0 speed) agoB)) (mulW
    IntKind.i64 (subW IntKind.i64 0 speed) agoB) driftB)), agoB) :: @List.nil (den SeenT))) (addW IntKind.i64 a u) a)) speed) false) (rI a)) (need (impB (selB (selB
    (selB (leB least (subW IntKind.i64 (selI (safeF a u least speed ((1, subW IntKind.i64 b (selI (ltB (mulW IntKind.i64 speed agoB) (selI (ltB driftB (mulW IntKind.i64
    (subW IntKind.i64 0 speed) agoB)) (mulW IntKind.i64 (subW IntKind.i64 0 speed) agoB) driftB)) (mulW IntKind.i64 speed agoB) (selI (ltB driftB (mulW IntKind.i64 (subW
    IntKind.i64 0 speed) agoB)) (mulW IntKind.i64 (subW IntKind.i64 0 speed) agoB) driftB)), agoB) :: @List.nil (den SeenT))) (addW IntKind.i64 a u) a) (selI (safeF
    b v least speed ((0, subW IntKind.i64 a (selI (ltB (mulW IntKind.i64 speed agoA) (selI (ltB driftA (mulW IntKind.i64 (subW IntKind.i64 0 speed) agoA)) (mulW IntKind.i64
    (subW IntKind.i64 0 speed) agoA) driftA)) (mulW IntKind.i64 speed agoA) (selI (ltB driftA (mulW IntKind.i64 (subW IntKind.i64 0 speed) agoA)) (mulW IntKind.i64 (subW
    IntKind.i64 0 speed) agoA) driftA)), agoA) :: @List.nil (den SeenT))) (addW IntKind.i64 b v) b))) true (leB least (subW IntKind.i64 (selI (safeF b v least speed
    ((0, subW IntKind.i64 a (selI (ltB (mulW IntKind.i64 speed agoA) (selI (ltB driftA (mulW IntKind.i64 (subW IntKind.i64 0 speed) agoA)) (mulW IntKind.i64 (subW IntKind.i64
    0 speed) agoA) driftA)) (mulW IntKind.i64 speed agoA) (selI (ltB driftA (mulW IntKind.i64 (subW IntKind.i64 0 speed) agoA)) (mulW IntKind.i64 (subW IntKind.i64 0
    speed) agoA) driftA)), agoA) :: @List.nil (den SeenT))) (addW IntKind.i64 b v) b) (selI (safeF a u least speed ((1, subW IntKind.i64 b (selI (ltB (mulW IntKind.i64
    speed agoB) (selI (ltB driftB (mulW IntKind.i64 (subW IntKind.i64 0 speed) agoB)) (mulW IntKind.i64 (subW IntKind.i64 0 speed) agoB) driftB)) (mulW IntKind.i64 speed
    agoB) (selI (ltB driftB (mulW IntKind.i64 (subW IntKind.i64 0 speed) agoB)) (mulW IntKind.i64 (subW IntKind.i64 0 speed) agoB) driftB)), agoB) :: @List.nil (den
    SeenT))) (addW IntKind.i64 a u) a)))) (leB (subW IntKind.i64 (selI (safeF a u least speed ((1, subW IntKind.i64 b (selI (ltB (mulW IntKind.i64 speed agoB) (selI
    (ltB driftB (mulW IntKind.i64 (subW IntKind.i64 0 speed) agoB)) (mulW IntKind.i64 (subW IntKind.i64 0 speed) agoB) driftB)) (mulW IntKind.i64 speed agoB) (selI (ltB
    driftB (mulW IntKind.i64 (subW IntKind.i64 0 speed) agoB)) (mulW IntKind.i64 (subW IntKind.i64 0 speed) agoB) driftB)), agoB) :: @List.nil (den SeenT))) (addW IntKind.i64
    a u) a) a) speed) false) (leB (subW IntKind.i64 a (selI (safeF a u least speed ((1, subW IntKind.i64 b (selI (ltB (mulW IntKind.i64 speed agoB) (selI (ltB driftB
    (mulW IntKind.i64 (subW IntKind.i64 0 speed) agoB)) (mulW IntKind.i64 (subW IntKind.i64 0 speed) agoB) driftB)) (mulW IntKind.i64 speed agoB) (selI (ltB driftB (mulW
    IntKind.i64 (subW IntKind.i64 0 speed) agoB)) (mulW IntKind.i64 (subW IntKind.i64 0 speed) agoB) driftB)), agoB) :: @List.nil (den SeenT))) (addW IntKind.i64 a u)
    a)) speed) false) (rI (subW IntKind.i64 b (selI (ltB (mulW IntKind.i64 speed agoB) (selI (ltB driftB (mulW IntKind.i64 (subW IntKind.i64 0 speed) agoB)) (mulW IntKind.i64
    (subW IntKind.i64 0 speed) agoB) driftB)) (mulW IntKind.i64 speed agoB) (selI (ltB driftB (mulW IntKind.i64 (subW IntKind.i64 0 speed) agoB)) (mulW IntKind.i64 (subW
    IntKind.i64 0 speed) agoB) driftB))))) (need (impB (selB (selB (selB (leB least (subW IntKind.i64 (selI (safeF a u least speed ((1, subW IntKind.i64 b (selI (ltB
    (mulW IntKind.i64 speed agoB) (selI (ltB driftB (mulW IntKind.i64 (subW IntKind.i64 0 speed) agoB)) (mulW IntKind.i64 (subW IntKind.i64 0 speed) agoB) driftB)) (mulW
    IntKind.i64 speed agoB) (selI (ltB driftB (mulW IntKind.i64 (subW IntKind.i64 0 speed) agoB)) (mulW IntKind.i64 (subW IntKind.i64 0 speed) agoB) driftB)), agoB)
    :: @List.nil (den SeenT))) (addW IntKind.i64 a u) a) (selI (safeF b v least speed ((0, subW IntKind.i64 a (selI (ltB (mulW IntKind.i64 speed agoA) (selI (ltB driftA
    (mulW IntKind.i64 (subW IntKind.i64 0 speed) agoA)) (mulW IntKind.i64 (subW IntKind.i64 0 speed) agoA) driftA)) (mulW IntKind.i64 speed agoA) (selI (ltB driftA (mulW
    IntKind.i64 (subW IntKind.i64 0 speed) agoA)) (mulW IntKind.i64 (subW IntKind.i64 0 speed) agoA) driftA)), agoA) :: @List.nil (den SeenT))) (addW IntKind.i64 b v)
    b))) true (leB least (subW IntKind.i64 (selI (safeF b v least speed ((0, subW IntKind.i64 a (selI (ltB (mulW IntKind.i64 speed agoA) (selI (ltB driftA (mulW IntKind.i64
    (subW IntKind.i64 0 speed) agoA)) (mulW IntKind.i64 (subW IntKind.i64 0 speed) agoA) driftA)) (mulW IntKind.i64 speed agoA) (selI (ltB driftA (mulW IntKind.i64 (subW
    IntKind.i64 0 speed) agoA)) (mulW IntKind.i64 (subW IntKind.i64 0 speed) agoA) driftA)), agoA) :: @List.nil (den SeenT))) (addW IntKind.i64 b v) b) (selI (safeF
    a u least speed ((1, subW IntKind.i64 b (selI (ltB (mulW IntKind.i64 speed agoB) (selI (ltB driftB (mulW IntKind.i64 (subW IntKind.i64 0 speed) agoB)) (mulW IntKind.i64
    (subW IntKind.i64 0 speed) agoB) driftB)) (mulW IntKind.i64 speed agoB) (selI (ltB driftB (mulW IntKind.i64 (subW IntKind.i64 0 speed) agoB)) (mulW IntKind.i64 (subW
    IntKind.i64 0 speed) agoB) driftB)), agoB) :: @List.nil (den SeenT))) (addW IntKind.i64 a u) a)))) (leB (subW IntKind.i64 (selI (safeF a u least speed ((1, subW
    IntKind.i64 b (selI (ltB (mulW IntKind.i64 speed agoB) (selI (ltB driftB (mulW IntKind.i64 (subW IntKind.i64 0 speed) agoB)) (mulW IntKind.i64 (subW IntKind.i64
    0 speed) agoB) driftB)) (mulW IntKind.i64 speed agoB) (selI (ltB driftB (mulW IntKind.i64 (subW IntKind.i64 0 speed) agoB)) (mulW IntKind.i64 (subW IntKind.i64 0
    speed) agoB) driftB)), agoB) :: @List.nil (den SeenT))) (addW IntKind.i64 a u) a) a) speed) false) (leB (subW IntKind.i64 a (selI (safeF a u least speed ((1, subW
    IntKind.i64 b (selI (ltB (mulW IntKind.i64 speed agoB) (selI (ltB driftB (mulW IntKind.i64 (subW IntKind.i64 0 speed) agoB)) (mulW IntKind.i64 (subW IntKind.i64
    0 speed) agoB) driftB)) (mulW IntKind.i64 speed agoB) (selI (ltB driftB (mulW IntKind.i64 (subW IntKind.i64 0 speed) agoB)) (mulW IntKind.i64 (subW IntKind.i64 0
    speed) agoB) driftB)), agoB) :: @List.nil (den SeenT))) (addW IntKind.i64 a u) a)) speed) false) (rI agoB)) (need (impB (selB (selB (selB (leB least (subW IntKind.i64
    (selI (safeF a u least speed ((1, subW IntKind.i64 b (selI (ltB (mulW IntKind.i64 speed agoB) (selI (ltB driftB (mulW IntKind.i64 (subW IntKind.i64 0 speed) agoB))
    (mulW IntKind.i64 (subW IntKind.i64 0 speed) agoB) driftB)) (mulW IntKind.i64 speed agoB) (selI (ltB driftB (mulW IntKind.i64 (subW IntKind.i64 0 speed) agoB)) (mulW
    IntKind.i64 (subW IntKind.i64 0 speed) agoB) driftB)), agoB) :: @List.nil (den SeenT))) (addW IntKind.i64 a u) a) (selI (safeF b v least speed ((0, subW IntKind.i64
    a (selI (ltB (mulW IntKind.i64 speed agoA) (selI (ltB driftA (mulW IntKind.i64 (subW IntKind.i64 0 speed) agoA)) (mulW IntKind.i64 (subW IntKind.i64 0 speed) agoA)
    driftA)) (mulW IntKind.i64 speed agoA) (selI (ltB driftA (mulW IntKind.i64 (subW IntKind.i64 0 speed) agoA)) (mulW IntKind.i64 (subW IntKind.i64 0 speed) agoA) driftA)),
    agoA) :: @List.nil (den SeenT))) (addW IntKind.i64 b v) b))) true (leB least (subW IntKind.i64 (selI (safeF b v least speed ((0, subW IntKind.i64 a (selI (ltB (mulW
    IntKind.i64 speed agoA) (selI (ltB driftA (mulW IntKind.i64 (subW IntKind.i64 0 speed) agoA)) (mulW IntKind.i64 (subW IntKind.i64 0 speed) agoA) driftA)) (mulW IntKind.i64
    speed agoA) (selI (ltB driftA (mulW IntKind.i64 (subW IntKind.i64 0 speed) agoA)) (mulW IntKind.i64 (subW IntKind.i64 0 speed) agoA) driftA)), agoA) :: @List.nil
    (den SeenT))) (addW IntKind.i64 b v) b) (selI (safeF a u least speed ((1, subW IntKind.i64 b (selI (ltB (mulW IntKind.i64 speed agoB) (selI (ltB driftB (mulW IntKind.i64
    (subW IntKind.i64 0 speed) agoB)) (mulW IntKind.i64 (subW IntKind.i64 0 speed) agoB) driftB)) (mulW IntKind.i64 speed agoB) (selI (ltB driftB (mulW IntKind.i64 (subW
    IntKind.i64 0 speed) agoB)) (mulW IntKind.i64 (subW IntKind.i64 0 speed) agoB) driftB)), agoB) :: @List.nil (den SeenT))) (addW IntKind.i64 a u) a)))) (leB (subW
    IntKind.i64 (selI (safeF a u least speed ((1, subW IntKind.i64 b (selI (ltB (mulW IntKind.i64 speed agoB) (selI (ltB driftB (mulW IntKind.i64 (subW IntKind.i64 0
    speed) agoB)) (mulW IntKind.i64 (subW IntKind.i64 0 speed) agoB) driftB)) (mulW IntKind.i64 speed agoB) (selI (ltB driftB (mulW IntKind.i64 (subW IntKind.i64 0 speed)
    agoB)) (mulW IntKind.i64 (subW IntKind.i64 0 speed) agoB) driftB)), agoB) :: @List.nil (den SeenT))) (addW IntKind.i64 a u) a) a) speed) false) (leB (subW IntKind.i64
    a (selI (safeF a u least speed ((1, subW IntKind.i64 b (selI (ltB (mulW IntKind.i64 speed agoB) (selI (ltB driftB (mulW IntKind.i64 (subW IntKind.i64 0 speed) agoB))
    (mulW IntKind.i64 (subW IntKind.i64 0 speed) agoB) driftB)) (mulW IntKind.i64 speed agoB) (selI (ltB driftB (mulW IntKind.i64 (subW IntKind.i64 0 speed) agoB)) (mulW
    IntKind.i64 (subW IntKind.i64 0 speed) agoB) driftB)), agoB) :: @List.nil (den SeenT))) (addW IntKind.i64 a u) a)) speed) false) (rI speed)) (AOut.ret (AV.bool (selB
    (selB (selB (selB (leB least (subW IntKind.i64 (selI (safeF a u least speed ((1, subW IntKind.i64 b (selI (ltB (mulW IntKind.i64 speed agoB) (selI (ltB driftB (mulW
    IntKind.i64 (subW IntKind.i64 0 speed) agoB)) (mulW IntKind.i64 (subW IntKind.i64 0 speed) agoB) driftB)) (mulW IntKind.i64 speed agoB) (selI (ltB driftB (mulW IntKind.i64
    (subW IntKind.i64 0 speed) agoB)) (mulW IntKind.i64 (subW IntKind.i64 0 speed) agoB) driftB)), agoB) :: @List.nil (den SeenT))) (addW IntKind.i64 a u) a) (selI (safeF
    b v least speed ((0, subW IntKind.i64 a (selI (ltB (mulW IntKind.i64 speed agoA) (selI (ltB driftA (mulW IntKind.i64 (subW IntKind.i64 0 speed) agoA)) (mulW IntKind.i64
    (subW IntKind.i64 0 speed) agoA) driftA)) (mulW IntKind.i64 speed agoA) (selI (ltB driftA (mulW IntKind.i64 (subW IntKind.i64 0 speed) agoA)) (mulW IntKind.i64 (subW
    IntKind.i64 0 speed) agoA) driftA)), agoA) :: @List.nil (den SeenT))) (addW IntKind.i64 b v) b))) true (leB least (subW IntKind.i64 (selI (safeF b v least speed
    ((0, subW IntKind.i64 a (selI (ltB (mulW IntKind.i64 speed agoA) (selI (ltB driftA (mulW IntKind.i64 (subW IntKind.i64 0 speed) agoA)) (mulW IntKind.i64 (subW IntKind.i64
    0 speed) agoA) driftA)) (mulW IntKind.i64 speed agoA) (selI (ltB driftA (mulW IntKind.i64 (subW IntKind.i64 0 speed) agoA)) (mulW IntKind.i64 (subW IntKind.i64 0
    speed) agoA) driftA)), agoA) :: @List.nil (den SeenT))) (addW IntKind.i64 b v) b) (selI (safeF a u least speed ((1, subW IntKind.i64 b (selI (ltB (mulW IntKind.i64
    speed agoB) (selI (ltB driftB (mulW IntKind.i64 (subW IntKind.i64 0 speed) agoB)) (mulW IntKind.i64 (subW IntKind.i64 0 speed) agoB) driftB)) (mulW IntKind.i64 speed
    agoB) (selI (ltB driftB (mulW IntKind.i64 (subW IntKind.i64 0 speed) agoB)) (mulW IntKind.i64 (subW IntKind.i64 0 speed) agoB) driftB)), agoB) :: @List.nil (den
    SeenT))) (addW IntKind.i64 a u) a)))) (leB (subW IntKind.i64 (selI (safeF a u least speed ((1, subW IntKind.i64 b (selI (ltB (mulW IntKind.i64 speed agoB) (selI
    (ltB driftB (mulW IntKind.i64 (subW IntKind.i64 0 speed) agoB)) (mulW IntKind.i64 (subW IntKind.i64 0 speed) agoB) driftB)) (mulW IntKind.i64 speed agoB) (selI (ltB
    driftB (mulW IntKind.i64 (subW IntKind.i64 0 speed) agoB)) (mulW IntKind.i64 (subW IntKind.i64 0 speed) agoB) driftB)), agoB) :: @List.nil (den SeenT))) (addW IntKind.i64
    a u) a) a) speed) false) (leB (subW IntKind.i64 a (selI (safeF a u least speed ((1, subW IntKind.i64 b (selI (ltB (mulW IntKind.i64 speed agoB) (selI (ltB driftB
    (mulW IntKind.i64 (subW IntKind.i64 0 speed) agoB)) (mulW IntKind.i64 (subW IntKind.i64 0 speed) agoB) driftB)) (mulW IntKind.i64 speed agoB) (selI (ltB driftB (mulW
    IntKind.i64 (subW IntKind.i64 0 speed) agoB)) (mulW IntKind.i64 (subW IntKind.i64 0 speed) agoB) driftB)), agoB) :: @List.nil (den SeenT))) (addW IntKind.i64 a u)
    a)) speed) false) (leB (gapF a (subW IntKind.i64 b (selI (ltB (mulW IntKind.i64 speed agoB) (selI (ltB driftB (mulW IntKind.i64 (subW IntKind.i64 0 speed) agoB))
    (mulW IntKind.i64 (subW IntKind.i64 0 speed) agoB) driftB)) (mulW IntKind.i64 speed agoB) (selI (ltB driftB (mulW IntKind.i64 (subW IntKind.i64 0 speed) agoB)) (mulW
    IntKind.i64 (subW IntKind.i64 0 speed) agoB) driftB))) agoB speed) (selI (ltB (subW IntKind.i64 a b) (subW IntKind.i64 b a)) (subW IntKind.i64 b a) (subW IntKind.i64
    a b))) false)) = AOut.ret (AV.bool true)))))))))))))))))))) := by kernel_rfl
theorem PairApart_call : CallOK Try.prog (acall tab fs_alive specs_size fns 100 20) := mkCall fsOK_alive specsOK_size fnsOK
theorem PairApart_go (a b agoA agoB driftA driftB u v least speed : Int) (w : rI a ∧ rI b ∧ rI agoA ∧ rI agoB ∧ rI driftA ∧ rI driftB ∧ rI u ∧ rI v ∧ rI least ∧ rI speed) : LawEv (acall tab fs_alive specs_size fns 100 20) 4 [.int .i64 a, .int .i64 b, .int .i64 agoA, .int .i64 agoB, .int .i64 driftA, .int .i64 driftB, .int .i64 u, .int .i64 v, .int .i64 least, .int .i64 speed] := by
  refine ⟨?_⟩
  rw [PairApart_eq]
  simp only [ifB_def]
  refine ⟨fun _ => trivial, fun hg => ⟨fun _ => trivial, fun hs => ?_⟩⟩
  simp only [selB_t, ltB_def, Bool.or_eq_false_iff, decide_eq_false_iff_not, Int.not_lt] at hg
  obtain ⟨⟨⟨⟨⟨⟨⟨⟨⟨⟨⟨s0, s1⟩, l0⟩, l1⟩, a0⟩, a1⟩, b0⟩, b1⟩, x1⟩, x0⟩, y1⟩, y0⟩ := hg
  obtain ⟨w1, w2, w3, w4, w5, w6, w7, w8, w9, w10⟩ := w
  have hp := mul_bound (m := 1000) ⟨s0, s1⟩ ⟨b0, b1⟩
  have hq := mul_bound (m := 1000) ⟨s0, s1⟩ ⟨a0, a1⟩
  have e1 : mulW .i64 speed agoB = speed * agoB := mulW64 (by omega) (by omega)
  have f1 : mulW .i64 speed agoA = speed * agoA := mulW64 (by omega) (by omega)
  have e2 : subW .i64 0 speed = -speed := by rw [subW64 (by omega) (by omega)]; omega
  have e3 : mulW .i64 (-speed) agoB = -(speed * agoB) := by rw [mulW64 (by rw [Int.neg_mul]; omega) (by rw [Int.neg_mul]; omega), Int.neg_mul]
  have f3 : mulW .i64 (-speed) agoA = -(speed * agoA) := by rw [mulW64 (by rw [Int.neg_mul]; omega) (by rw [Int.neg_mul]; omega), Int.neg_mul]
  simp only [selmin, selmax, e1, e2, e3, f1, f3] at hs ⊢
  obtain ⟨HB, eB, hB1, hB2⟩ := heard (b := b) (d := driftB) (p := speed * agoB) ⟨by omega, by omega⟩ ⟨hp.1, by omega⟩
  obtain ⟨HA, eA, hA1, hA2⟩ := heard (b := a) (d := driftA) (p := speed * agoA) ⟨by omega, by omega⟩ ⟨hq.1, by omega⟩
  simp only [eB, eA]
  have dab : subW .i64 a b = a - b := subW64 (by omega) (by omega)
  have dba : subW .i64 b a = b - a := subW64 (by omega) (by omega)
  simp only [dab, dba, selB_f, Bool.and_eq_false_iff, ltB_def, decide_eq_false_iff_not] at hs ⊢
  have rHB : rI HB := by unfold rI; omega
  have rHA : rI HA := by unfold rI; omega
  have r0 : rI 0 := by unfold rI; omega
  have r1 : rI 1 := by unfold rI; omega
  have sA := safe_one (h := a) (mv := u) (ls := least) (i' := 1) (h' := HB) s0 b0
  have sB := safe_one (h := b) (mv := v) (ls := least) (i' := 0) (h' := HA) s0 a0
  have hgap : gapF a HB agoB speed ≤ max (a - b) (b - a) := by
    have := apart_spec a HB
    unfold gapF
    rw [Int.max_eq_left s0, Int.max_eq_left b0]
    split <;> omega
  have au := apart_spec u 0
  have av := apart_spec v 0
  have bu := apart_spec (a + u) HB
  have bv := apart_spec (b + v) HA
  have lo : ∀ x y z : Int, lenOK (lenI [((x, y, z) : den SeenT)]) := fun _ _ _ => by unfold lenOK lenI; simp
  have li : ∀ x y z : Int, rI x → rI y → rI z → rIs [((x, y, z) : den SeenT)] := fun x y z h1 h2 h3 => by unfold rIs; simp only [List.mem_singleton]; rintro _ rfl; exact ⟨h1, h2, h3⟩
  simp only [need_def, impB_def, lo, li _ _ _ r1 rHB w4, li _ _ _ r0 rHA w3, w1, w2, w3, w4, w5, w6, w7, w8, w9, w10, rHB, rHA, true_and, and_true, implies_true]
  have key : ∀ x y : Int, (x = a ∨ (x = a + u ∧ safeF a u least speed [((1, HB, agoB) : den SeenT)] = true)) → (y = b ∨ (y = b + v ∧ safeF b v least speed [((0, HA, agoA) : den SeenT)] = true)) →
      (least ≤ x - y ∨ least ≤ y - x) ∧ x - a ≤ speed ∧ a - x ≤ speed ∧ (-1073750000 ≤ x ∧ x ≤ 1073750000) ∧ (-1073750000 ≤ y ∧ y ≤ 1073750000) := by
    intro x y hx hy
    rcases hx with rfl | ⟨rfl, hx⟩ <;> rcases hy with rfl | ⟨rfl, hy⟩
    · exact ⟨by omega, by omega, by omega, by omega, by omega⟩
    · have := sB.1 hy; exact ⟨by omega, by omega, by omega, by omega, by omega⟩
    · have := sA.1 hx; exact ⟨by omega, by omega, by omega, by omega, by omega⟩
    · have := sA.1 hx; have := sB.1 hy; exact ⟨by omega, by omega, by omega, by omega, by omega⟩
  have ex : ∃ x, selI (safeF a u least speed [((1, HB, agoB) : den SeenT)]) (addW .i64 a u) a = x ∧ (x = a ∨ (x = a + u ∧ safeF a u least speed [((1, HB, agoB) : den SeenT)] = true)) := by
    refine ⟨_, rfl, ?_⟩
    cases hc : safeF a u least speed [((1, HB, agoB) : den SeenT)]
    · left; rfl
    · right; have := sA.1 hc; exact ⟨addW64 (by omega) (by omega), rfl⟩
  have ey : ∃ y, selI (safeF b v least speed [((0, HA, agoA) : den SeenT)]) (addW .i64 b v) b = y ∧ (y = b ∨ (y = b + v ∧ safeF b v least speed [((0, HA, agoA) : den SeenT)] = true)) := by
    refine ⟨_, rfl, ?_⟩
    cases hc : safeF b v least speed [((0, HA, agoA) : den SeenT)]
    · left; rfl
    · right; have := sB.1 hc; exact ⟨addW64 (by omega) (by omega), rfl⟩
  obtain ⟨x, ex, hx⟩ := ex
  obtain ⟨y, ey, hy⟩ := ey
  obtain ⟨k1, k2, k3, k4, k5⟩ := key x y hx hy
  simp only [ex, ey]
  rw [subW64 (a := x) (b := y) (by omega) (by omega), subW64 (a := y) (b := x) (by omega) (by omega), subW64 (a := x) (b := a) (by omega) (by omega), subW64 (a := a) (b := x) (by omega) (by omega)]
  simp only [selB_t, selB_f, leB_def, AOut.ret.injEq, AV.bool.injEq, Bool.and_eq_true, Bool.or_eq_true, decide_eq_true_eq]
  exact ⟨⟨⟨k1, k2⟩, k3⟩, hgap⟩
theorem PairApart_ev : ∀ xs : DT [(.int .i64), (.int .i64), (.int .i64), (.int .i64), (.int .i64), (.int .i64), (.int .i64), (.int .i64), (.int .i64), (.int .i64)], wfs [(.int .i64), (.int .i64), (.int .i64), (.int .i64), (.int .i64), (.int .i64), (.int .i64), (.int .i64), (.int .i64), (.int .i64)] xs → LawEv (acall tab fs_alive specs_size fns 100 20) 4 (argsA tab #[3, 3, 3, 3, 3, 3, 3, 3, 3, 3].toList [(.int .i64), (.int .i64), (.int .i64), (.int .i64), (.int .i64), (.int .i64), (.int .i64), (.int .i64), (.int .i64), (.int .i64)] xs) := by
  rintro ⟨a, b, agoA, agoB, driftA, driftB, u, v, least, speed, ⟨⟩⟩ hw
  exact PairApart_go a b agoA agoB driftA driftB u v least speed ⟨hasI hw.1, hasI hw.2.1, hasI hw.2.2.1, hasI hw.2.2.2.1, hasI hw.2.2.2.2.1, hasI hw.2.2.2.2.2.1, hasI hw.2.2.2.2.2.2.1, hasI hw.2.2.2.2.2.2.2.1, hasI hw.2.2.2.2.2.2.2.2.1, hasI hw.2.2.2.2.2.2.2.2.2.1⟩



theorem PairApart_own : ownKnob Try.prog.godebug = none := by kernel_rfl
theorem PairApart_kids : Kids Try.prog (· < Try.prog.types.size) := kids_rows (by kernel_rfl) (by kernel_rfl)
theorem PairApart_full : ∀ t e, t < Try.prog.types.size → Try.prog.underlying t = some (.slice e) → 0 < Try.prog.cellsOf e := slices_full_of _ (by kernel_rfl)

theorem PairApart_lifted (os : Os) (started : os.Started) (H : Type) (enc : TypeId × Value → H) :
    ReturnsInHanded {} Try.checked os 4 .any (Rows.pairApartSpec.pre6 enc Try.prog Try.f4 Rows.pairApartRow.domain false) (Rows.pairApartSpec.post enc Try.prog Try.f4 false true false false) := by
  refine returnsInHanded_of_change_shaped (C := Try.checked) PairApart_own started (by kernel_rfl) Try.func4
    (ChangeSpec.witness6 (enc := enc) (C := Try.checked) false ⟨#[], #[(Value.int IntKind.i64 0), (Value.int IntKind.i64 0), (Value.int IntKind.i64 0), (Value.int IntKind.i64 0), (Value.int IntKind.i64 0), (Value.int IntKind.i64 0), (Value.int IntKind.i64 0), (Value.int IntKind.i64 0), (Value.int IntKind.i64 0), (Value.int IntKind.i64 0)], []⟩ 8 (by kernel_rfl) (by kernel_rfl) (by kernel_rfl) (by kernel_rfl)) ?_
  intro W base args ds gs before hval hW _ hwt _ _
  refine law_contract' (P := Try.prog) (fn := Try.f4) (s := Rows.pairApartSpec) (tb := 4) (Ts := [(.int .i64), (.int .i64), (.int .i64), (.int .i64), (.int .i64), (.int .i64), (.int .i64), (.int .i64), (.int .i64), (.int .i64)]) (call := (acall tab fs_alive specs_size fns 100 20)) (f := 4) tabOK PairApart_call PairApart_kids PairApart_full Try.params4 (by decide +kernel) rfl rfl Try.underlying4 ?_ (by kernel_rfl) PairApart_ev hval hW hwt
  intro ds hl
  match ds, hl with
  | [d0, d1, d2, d3, d4, d5, d6, d7, d8, d9], _ => rfl

theorem PairApart_holds : Rows.PairApartSaid :=
  OpenClaim.holds_of_wide 4 Try.f4 rfl rfl rfl rfl rfl rfl rfl ⟨rfl, rfl, rfl, rfl, rfl⟩ rfl rfl rfl rfl rfl (by kernel_rfl) Try.func4 (by kernel_rfl)
    (of_decide_eq_true (by kernel_rfl)) (by unfold Func.isWrapper; first | (rw [if_pos (by decide +kernel)]; kernel_rfl) | (rw [if_neg (by decide +kernel)]; exact ⟨rfl, rfl⟩))
    (fun os started H enc _ => PairApart_lifted os started H enc)

end Go.Proofs.Yticnfdlfhakneaa

/- The tops: a new one. -/
import Derived.Test.YtgifbceiaibejaaSmRingT
namespace Go.Proofs.Ytgifbceiaibejaa.Sx
open Go.RowKit
set_option maxRecDepth 100000
set_option maxHeartbeats 4000000
set_option linter.unusedVariables false
set_option linter.unusedSimpArgs false
def newOK (n : Int) : Prop := 1 ≤ n ∧ n ≤ 2000
noncomputable def newtopS : List AV → List Blk → AK → Prop := fun args m K => match args, m with | [.int .i64 n], [] => need (newOK n) (K (.ret (.tup [.ptr 6 0, .int .i64 0])) [.row 3 (.int .i64) (repI n (0 : Int)) [], .var [.own 0, .int .i64 0, .int .i64 0], .row 66 EntT (repI n ((0 : Int), (0 : Int))) [], .var [.own 2, .int .i64 0, .int .i64 0, .bool true], .row 66 EntT (repI n ((0 : Int), (0 : Int))) [], .var [.own 4, .int .i64 0, .int .i64 0, .bool false], .var [.ptr 1 0, .ptr 3 0, .ptr 5 0, .int .i64 0]] [0, 2, 3, 4, 5, 6, 7] [0, 7]) | _, _ => False
theorem newtop_eq (K : AK) (n : Int) : acall tab fs_rnow specs_tmin fns 100 20 16 [.int .i64 n] [] K =
  (ifB (selB (ltB n 1) true (ltB 2000 n)) (K (AOut.ret (AV.tup (AV.nilp :: AV.int IntKind.i64 1 :: @List.nil AV))) (@List.nil Blk) (@List.nil Nat) (@List.nil Nat))
    (eqI n n (need (geZ n) (need (fitA n) (eqI n n (eqI n n (need (eqI n n (need (geZ n) (need (fitA n) (eqI n n (eqI 0 0 (eqI 0 0 (eqL true true (need (eqI n n (eqI
    n n (need (geZ n) (need (fitA n) (eqI 0 0 (eqI 0 0 (eqL false false (eqI 0 0 (K (AOut.ret (AV.tup (AV.ptr 6 0 :: AV.int IntKind.i64 0 :: @List.nil AV))) (Blk.row
    3 (Ty.int IntKind.i64) (repI n (0 : Int)) (@List.nil Nat) :: Blk.var (AV.own 0 :: AV.int IntKind.i64 0 :: AV.int IntKind.i64 0 :: @List.nil AV) :: Blk.row 66 EntT
    (repI n ((0 : Int), (0 : Int))) (@List.nil Nat) :: Blk.var (AV.own 2 :: AV.int IntKind.i64 0 :: AV.int IntKind.i64 0 :: AV.bool true :: @List.nil AV) :: Blk.row
    66 EntT (repI n ((0 : Int), (0 : Int))) (@List.nil Nat) :: Blk.var (AV.own 4 :: AV.int IntKind.i64 0 :: AV.int IntKind.i64 0 :: AV.bool false :: @List.nil AV) ::
    Blk.var (AV.ptr 1 0 :: AV.ptr 3 0 :: AV.ptr 5 0 :: AV.int IntKind.i64 0 :: @List.nil AV) :: @List.nil Blk) (0 :: 2 :: 3 :: 4 :: 5 :: 6 :: 7 :: @List.nil Nat) (0
    :: 7 :: @List.nil Nat)))))))))) (eqI n n (need (geZ n) (need (fitA n) (eqI 0 0 (eqI 0 0 (eqL true true (eqI 0 0 (eqI 0 0 (eqL false false (need (eqI 0 0 (eqI 0 0
    (eqL false false (eqI 0 0 (K (AOut.ret (AV.tup (AV.ptr 6 0 :: AV.int IntKind.i64 0 :: @List.nil AV))) (Blk.row 3 (Ty.int IntKind.i64) (repI n (0 : Int)) (@List.nil
    Nat) :: Blk.var (AV.own 0 :: AV.int IntKind.i64 0 :: AV.int IntKind.i64 0 :: @List.nil AV) :: Blk.row 66 EntT (repI n ((0 : Int), (0 : Int))) (@List.nil Nat) ::
    Blk.var (AV.own 2 :: AV.int IntKind.i64 0 :: AV.int IntKind.i64 0 :: AV.bool true :: @List.nil AV) :: Blk.row 66 EntT (repI n ((0 : Int), (0 : Int))) (@List.nil
    Nat) :: Blk.var (AV.own 4 :: AV.int IntKind.i64 0 :: AV.int IntKind.i64 0 :: AV.bool false :: @List.nil AV) :: Blk.var (AV.ptr 1 0 :: AV.ptr 3 0 :: AV.ptr 5 0 ::
    AV.int IntKind.i64 0 :: @List.nil AV) :: @List.nil Blk) (0 :: 2 :: 3 :: 4 :: 5 :: 6 :: 7 :: @List.nil Nat) (0 :: 7 :: @List.nil Nat)))))) (eqI 0 0 (eqI 0 0 (eqL
    true true (eqI 0 0 (K (AOut.ret (AV.tup (AV.ptr 6 0 :: AV.int IntKind.i64 0 :: @List.nil AV))) (Blk.row 3 (Ty.int IntKind.i64) (repI n (0 : Int)) (@List.nil Nat)
    :: Blk.var (AV.own 0 :: AV.int IntKind.i64 0 :: AV.int IntKind.i64 0 :: @List.nil AV) :: Blk.row 66 EntT (repI n ((0 : Int), (0 : Int))) (@List.nil Nat) :: Blk.var
    (AV.own 2 :: AV.int IntKind.i64 0 :: AV.int IntKind.i64 0 :: AV.bool true :: @List.nil AV) :: Blk.row 66 EntT (repI n ((0 : Int), (0 : Int))) (@List.nil Nat) ::
    Blk.var (AV.own 4 :: AV.int IntKind.i64 0 :: AV.int IntKind.i64 0 :: AV.bool false :: @List.nil AV) :: Blk.var (AV.ptr 1 0 :: AV.ptr 3 0 :: AV.ptr 5 0 :: AV.int
    IntKind.i64 0 :: @List.nil AV) :: @List.nil Blk) (0 :: 2 :: 3 :: 4 :: 5 :: 6 :: 7 :: @List.nil Nat) (0 :: 7 :: @List.nil Nat)))))))))))))))))))))))) (eqI n n (need
    (geZ n) (need (fitA n) (eqI n n (eqI 0 0 (eqI 0 0 (eqL false false (need (eqI n n (need (geZ n) (need (fitA n) (eqI 0 0 (eqI 0 0 (eqL false false (eqI 0 0 (eqI 0
    0 (eqL true true (need (eqI 0 0 (eqI 0 0 (eqL false false (eqI 0 0 (K (AOut.ret (AV.tup (AV.ptr 6 0 :: AV.int IntKind.i64 0 :: @List.nil AV))) (Blk.row 3 (Ty.int
    IntKind.i64) (repI n (0 : Int)) (@List.nil Nat) :: Blk.var (AV.own 0 :: AV.int IntKind.i64 0 :: AV.int IntKind.i64 0 :: @List.nil AV) :: Blk.row 66 EntT (repI n
    ((0 : Int), (0 : Int))) (@List.nil Nat) :: Blk.var (AV.own 2 :: AV.int IntKind.i64 0 :: AV.int IntKind.i64 0 :: AV.bool true :: @List.nil AV) :: Blk.row 66 EntT
    (repI n ((0 : Int), (0 : Int))) (@List.nil Nat) :: Blk.var (AV.own 4 :: AV.int IntKind.i64 0 :: AV.int IntKind.i64 0 :: AV.bool false :: @List.nil AV) :: Blk.var
    (AV.ptr 1 0 :: AV.ptr 3 0 :: AV.ptr 5 0 :: AV.int IntKind.i64 0 :: @List.nil AV) :: @List.nil Blk) (0 :: 2 :: 3 :: 4 :: 5 :: 6 :: 7 :: @List.nil Nat) (0 :: 7 ::
    @List.nil Nat)))))) (eqI 0 0 (eqI 0 0 (eqL true true (eqI 0 0 (K (AOut.ret (AV.tup (AV.ptr 6 0 :: AV.int IntKind.i64 0 :: @List.nil AV))) (Blk.row 3 (Ty.int IntKind.i64)
    (repI n (0 : Int)) (@List.nil Nat) :: Blk.var (AV.own 0 :: AV.int IntKind.i64 0 :: AV.int IntKind.i64 0 :: @List.nil AV) :: Blk.row 66 EntT (repI n ((0 : Int), (0
    : Int))) (@List.nil Nat) :: Blk.var (AV.own 2 :: AV.int IntKind.i64 0 :: AV.int IntKind.i64 0 :: AV.bool true :: @List.nil AV) :: Blk.row 66 EntT (repI n ((0 : Int),
    (0 : Int))) (@List.nil Nat) :: Blk.var (AV.own 4 :: AV.int IntKind.i64 0 :: AV.int IntKind.i64 0 :: AV.bool false :: @List.nil AV) :: Blk.var (AV.ptr 1 0 :: AV.ptr
    3 0 :: AV.ptr 5 0 :: AV.int IntKind.i64 0 :: @List.nil AV) :: @List.nil Blk) (0 :: 2 :: 3 :: 4 :: 5 :: 6 :: 7 :: @List.nil Nat) (0 :: 7 :: @List.nil Nat))))))))))))))))
    (eqI n n (eqI n n (need (geZ n) (need (fitA n) (eqI 0 0 (eqI 0 0 (eqL true true (eqI 0 0 (K (AOut.ret (AV.tup (AV.ptr 6 0 :: AV.int IntKind.i64 0 :: @List.nil AV)))
    (Blk.row 3 (Ty.int IntKind.i64) (repI n (0 : Int)) (@List.nil Nat) :: Blk.var (AV.own 0 :: AV.int IntKind.i64 0 :: AV.int IntKind.i64 0 :: @List.nil AV) :: Blk.row
    66 EntT (repI n ((0 : Int), (0 : Int))) (@List.nil Nat) :: Blk.var (AV.own 2 :: AV.int IntKind.i64 0 :: AV.int IntKind.i64 0 :: AV.bool true :: @List.nil AV) ::
    Blk.row 66 EntT (repI n ((0 : Int), (0 : Int))) (@List.nil Nat) :: Blk.var (AV.own 4 :: AV.int IntKind.i64 0 :: AV.int IntKind.i64 0 :: AV.bool false :: @List.nil
    AV) :: Blk.var (AV.ptr 1 0 :: AV.ptr 3 0 :: AV.ptr 5 0 :: AV.int IntKind.i64 0 :: @List.nil AV) :: @List.nil Blk) (0 :: 2 :: 3 :: 4 :: 5 :: 6 :: 7 :: @List.nil Nat)
    (0 :: 7 :: @List.nil Nat))))))))))))))))))))))))) := by kernel_rfl
theorem newtop_ok : SpecOK Try.prog 16 newtopS := specOK_of (mkCall fsOK_rnow specsOK_tmin fnsOK) (fun vs w => Try.call16 vs w) fun args m K h hw hwm => by
  unfold newtopS at h
  split at h
  · rename_i n
    rw [newtop_eq]
    refine ⟨?_⟩
    simp only [wfAL, wfA, wfS, wfM, wfB, and_true, true_and, wfT_int, wfT_str, wfT_bool, wfT_prod] at hw hwm
    obtain ⟨h1, h⟩ := h
    unfold newOK at h1
    have g8 : ¬ n < 1 := by omega
    have g9 : ¬ 2000 < n := by omega
    have g6 : geZ n := by unfold geZ; omega
    have g7 : fitA n := by unfold fitA; omega
    have g0 : 0 ≤ n := by omega
    simp only [need_def, appL_def, ifB_def, impB_def, selB_f, selB_t, selI_def, selX_def, notB_def, andB_def, orB_def, beqB_def, ltB_def, leB_def, eqB_def, seqB_def, eqI_def, eqL_def, eqS_def, eqD_def, eqT_def, imp_def, inI_def, nzI_def, geZ_def, ret_bool, ret_int, Bool.and_eq_true, Bool.or_eq_true, Bool.not_eq_true', Bool.not_eq_false', decide_eq_true_eq, decide_eq_false_iff_not, Bool.and_eq_false_iff, Bool.or_eq_false_iff, Int.not_lt, Int.not_le, true_and, and_true, implies_true, Bool.false_eq_true, Bool.true_eq_false, false_implies, forall_const, reduceCtorEq, if_true, if_false, true_implies, false_and, and_false, false_or, or_false, true_or, or_true, g6, g7, g8, g9, g0]
    repeat' (first | exact h | assumption | refine ⟨?_, ?_⟩ | intro _)
  · exact h.elim
noncomputable def specs_newtop : Specs := (16, frameS newtopS) :: specs_tmin
theorem specsOK_newtop : SpecsOK Try.prog specs_newtop := specsOK_cons (frame_ok newtop_ok) specsOK_tmin
end Go.Proofs.Ytgifbceiaibejaa.Sx


/- The modes: what the small functions come to. -/
import Derived.Test.YtbgifokhlbaapaaSxV
import Derived.Test.YtbgifokhlbaapaaSx10
namespace Go.Proofs.Ytbgifokhlbaapaa.Sx
open Go.RowKit
set_option maxRecDepth 100000
set_option maxHeartbeats 4000000
set_option linter.unusedVariables false
set_option linter.unusedSimpArgs false
def calmF (a b c : Int) (d : Bool) : Bool := decide (3 ≤ a) && decide (b ≤ 0) && decide (c ≤ 0) && d
def nextF (k a b c : Int) (d r : Bool) : Int := if k = 3 ∨ a ≤ 0 then 3 else if d = false ∨ a = 1 then 2 else if k = 2 ∧ r = false then 2 else if k = 2 ∨ calmF a b c d = false then 1 else if k = 1 ∧ r = false then 1 else 0
def aliveS : FSpec := fun args m => match args with | [] => some ([], .bool true) | _ => none
noncomputable def calmS : FSpec := fun args m => match args with | [.agg [.int .i64 a, .int .i64 b, .int .i64 c, .bool d]] => some ([], .bool (calmF a b c d)) | _ => none
noncomputable def nextS : FSpec := fun args m => match args with | [.int .i64 k, .agg [.int .i64 a, .int .i64 b, .int .i64 c, .bool d], .bool r] => some ([], .int .i64 (nextF k a b c d r)) | _ => none
noncomputable def fs1 : FS := [(8, aliveS), (22, calmS), (23, calmS)]
noncomputable def fs : FS := (9, nextS) :: (14, nextS) :: fs1
theorem alive_eq  : acall tab [] [] fns 100 20 8 [] [] (fun o _ _ _ => o = .ret (.bool true)) =
  (eqI 0 0 (eqI 3 3 (eqI 0 0 (eqI 0 0 (eqL true true (eqI 1 1 (eqI 2 2 (eqL false false (eqI 1 1 (eqI 2 2 (eqI 0 0 (eqI 1 1 (eqI 0 0 (eqI 0 0 (eqL true true (eqI 0
    0 (eqI 2 2 (eqL false false (eqI 0 0 (eqI 2 2 (eqI 3 3 (eqI 0 0 (eqI 0 0 (eqL true true (eqI 3 3 (eqI 0 0 (eqI 0 0 (eqL true true (eqI 2 2 (eqI 3 3 (eqI 0 0 (eqI
    0 0 (eqL true true (eqI 1 1 (eqI 2 2 (eqL false false (eqI 1 1 (eqI 2 2 (eqI 3 3 (eqI 0 0 (eqI 0 0 (eqL true true (eqI 2 2 (eqI 3 3 (eqI 0 0 (eqI 0 0 (eqL true true
    (eqI 2 2 (eqI 2 2 (eqL true true (need (eqT true true) (eqI 2 2 (eqI 2 2 (AOut.ret (AV.bool true) = AOut.ret (AV.bool true))))))))))))))))))))))))))))))))))))))))))))))))))))))) := by kernel_rfl
theorem calm_eq (a b c : Int) (d : Bool) : acall tab [] [] fns 100 20 22 [.agg [.int .i64 a, .int .i64 b, .int .i64 c, .bool d]] [] (fun o _ _ _ => o = .ret (.bool (calmF a b c d))) =
  (AOut.ret (AV.bool (selB (selB (selB (leB 3 a) (leB b 0) false) (leB c 0) false) d false)) = AOut.ret (AV.bool (calmF a b c d))) := by kernel_rfl
theorem rcalm_eq (a b c : Int) (d : Bool) : acall tab [] [] fns 100 20 23 [.agg [.int .i64 a, .int .i64 b, .int .i64 c, .bool d]] [] (fun o _ _ _ => o = .ret (.bool (calmF a b c d))) =
  (AOut.ret (AV.bool (selB (selB (selB (leB 3 a) (leB b 0) false) (leB c 0) false) d false)) = AOut.ret (AV.bool (calmF a b c d))) := by kernel_rfl
theorem next_eq (k a b c : Int) (d r : Bool) : acall tab fs1 [] fns 100 20 9 [.int .i64 k, .agg [.int .i64 a, .int .i64 b, .int .i64 c, .bool d], .bool r] [] (fun o _ _ _ => o = .ret (.int .i64 (nextF k a b c d r))) =
  (ifB (selB (eqB k 3) true (leB a 0)) (AOut.ret (AV.int IntKind.i64 3) = AOut.ret (AV.int IntKind.i64 (nextF k a b c d r))) (ifB (selB (notB d) true (eqB a 1)) (AOut.ret
    (AV.int IntKind.i64 2) = AOut.ret (AV.int IntKind.i64 (nextF k a b c d r))) (ifB (selB (eqB k 2) (notB r) false) (AOut.ret (AV.int IntKind.i64 2) = AOut.ret (AV.int
    IntKind.i64 (nextF k a b c d r))) (ifB (selB (eqB k 2) true (notB (calmF a b c d))) (AOut.ret (AV.int IntKind.i64 1) = AOut.ret (AV.int IntKind.i64 (nextF k a b
    c d r))) (ifB (selB (eqB k 1) (notB r) false) (AOut.ret (AV.int IntKind.i64 1) = AOut.ret (AV.int IntKind.i64 (nextF k a b c d r))) (AOut.ret (AV.int IntKind.i64
    0) = AOut.ret (AV.int IntKind.i64 (nextF k a b c d r)))))))) := by kernel_rfl
theorem rnext_eq (k a b c : Int) (d r : Bool) : acall tab fs1 [] fns 100 20 14 [.int .i64 k, .agg [.int .i64 a, .int .i64 b, .int .i64 c, .bool d], .bool r] [] (fun o _ _ _ => o = .ret (.int .i64 (nextF k a b c d r))) =
  (ifB (selB (eqB k 3) true (leB a 0)) (AOut.ret (AV.int IntKind.i64 3) = AOut.ret (AV.int IntKind.i64 (nextF k a b c d r))) (ifB (selB (notB d) true (eqB a 1)) (AOut.ret
    (AV.int IntKind.i64 2) = AOut.ret (AV.int IntKind.i64 (nextF k a b c d r))) (ifB (selB (eqB k 2) (notB r) false) (AOut.ret (AV.int IntKind.i64 2) = AOut.ret (AV.int
    IntKind.i64 (nextF k a b c d r))) (ifB (eqB k 2) (AOut.ret (AV.int IntKind.i64 1) = AOut.ret (AV.int IntKind.i64 (nextF k a b c d r))) (ifB (selB (notB (calmF a
    b c d)) true (selB (eqB k 1) (notB r) false)) (AOut.ret (AV.int IntKind.i64 1) = AOut.ret (AV.int IntKind.i64 (nextF k a b c d r))) (AOut.ret (AV.int IntKind.i64
    0) = AOut.ret (AV.int IntKind.i64 (nextF k a b c d r)))))))) := by kernel_rfl
theorem call0 : CallOK Try.prog (acall tab [] [] fns 100 20) := acall_ok tabOK fsOK_nil specsOK_nil fnsOK (fun hC C => draw_ok tabOK hC mixed C) 20
theorem alive_ok : SpecOK Try.prog 8 (fspecS aliveS) := fspecOK_pure call0 (fun vs w => Try.call8 vs w) fun args m ps v h hp => by
  unfold aliveS at h
  split at h
  · cases h
    exact ⟨.bool true, by simp only [isoL]; rw [alive_eq]; simp only [need_def, ifB_def, impB_def, selB_f, selB_t, selI_def, selX_def, notB_def, andB_def, orB_def, beqB_def, ltB_def, leB_def, eqB_def, seqB_def, eqI_def, eqL_def, eqS_def, eqT_def, imp_def, inI_def, nzI_def, geZ_def, ret_bool, ret_int, Bool.and_eq_true, Bool.or_eq_true, Bool.not_eq_true', Bool.not_eq_false', decide_eq_true_eq, decide_eq_false_iff_not, Bool.and_eq_false_iff, Bool.or_eq_false_iff, Int.not_lt, Int.not_le, true_and, and_true, implies_true, Bool.false_eq_true, Bool.true_eq_false, false_implies, forall_const, reduceCtorEq, if_true, if_false, true_implies], rfl⟩
  · cases h
theorem calm_ok : SpecOK Try.prog 22 (fspecS calmS) := fspecOK_pure call0 (fun vs w => Try.call22 vs w) fun args m ps v h hp => by
  unfold calmS at h
  split at h
  · cases h
    rename_i a b c d
    exact ⟨.bool (calmF a b c d), by simp only [isoL, iso]; rw [calm_eq]; simp only [need_def, ifB_def, impB_def, selB_f, selB_t, selI_def, selX_def, notB_def, andB_def, orB_def, beqB_def, ltB_def, leB_def, eqB_def, seqB_def, eqI_def, eqL_def, eqS_def, eqT_def, imp_def, inI_def, nzI_def, geZ_def, ret_bool, ret_int, Bool.and_eq_true, Bool.or_eq_true, Bool.not_eq_true', Bool.not_eq_false', decide_eq_true_eq, decide_eq_false_iff_not, Bool.and_eq_false_iff, Bool.or_eq_false_iff, Int.not_lt, Int.not_le, true_and, and_true, implies_true, Bool.false_eq_true, Bool.true_eq_false, false_implies, forall_const, reduceCtorEq, if_true, if_false, true_implies, calmF], rfl⟩
  · cases h
theorem rcalm_ok : SpecOK Try.prog 23 (fspecS calmS) := fspecOK_pure call0 (fun vs w => Try.call23 vs w) fun args m ps v h hp => by
  unfold calmS at h
  split at h
  · cases h
    rename_i a b c d
    exact ⟨.bool (calmF a b c d), by simp only [isoL, iso]; rw [rcalm_eq]; simp only [need_def, ifB_def, impB_def, selB_f, selB_t, selI_def, selX_def, notB_def, andB_def, orB_def, beqB_def, ltB_def, leB_def, eqB_def, seqB_def, eqI_def, eqL_def, eqS_def, eqT_def, imp_def, inI_def, nzI_def, geZ_def, ret_bool, ret_int, Bool.and_eq_true, Bool.or_eq_true, Bool.not_eq_true', Bool.not_eq_false', decide_eq_true_eq, decide_eq_false_iff_not, Bool.and_eq_false_iff, Bool.or_eq_false_iff, Int.not_lt, Int.not_le, true_and, and_true, implies_true, Bool.false_eq_true, Bool.true_eq_false, false_implies, forall_const, reduceCtorEq, if_true, if_false, true_implies, calmF], rfl⟩
  · cases h
theorem fs1OK : FSOK Try.prog fs1 := fsOK_cons alive_ok (fsOK_cons calm_ok (fsOK_cons rcalm_ok fsOK_nil))
theorem call1 : CallOK Try.prog (acall tab fs1 [] fns 100 20) := acall_ok tabOK fs1OK specsOK_nil fnsOK (fun hC C => draw_ok tabOK hC mixed C) 20
theorem next_ok : SpecOK Try.prog 9 (fspecS nextS) := fspecOK_pure call1 (fun vs w => Try.call9 vs w) fun args m ps v h hp => by
  unfold nextS at h
  split at h
  · cases h
    rename_i k a b c d r
    refine ⟨.int .i64 (nextF k a b c d r), ?_, rfl⟩
    simp only [isoL, iso]
    rw [next_eq]
    simp only [need_def, ifB_def, impB_def, selB_f, selB_t, selI_def, selX_def, notB_def, andB_def, orB_def, beqB_def, ltB_def, leB_def, eqB_def, seqB_def, eqI_def, eqL_def, eqS_def, eqT_def, imp_def, inI_def, nzI_def, geZ_def, ret_bool, ret_int, Bool.and_eq_true, Bool.or_eq_true, Bool.not_eq_true', Bool.not_eq_false', decide_eq_true_eq, decide_eq_false_iff_not, Bool.and_eq_false_iff, Bool.or_eq_false_iff, Int.not_lt, Int.not_le, true_and, and_true, implies_true, Bool.false_eq_true, Bool.true_eq_false, false_implies, forall_const, reduceCtorEq, if_true, if_false, true_implies, nextF]
    generalize calmF a b c d = e
    cases e <;> cases d <;> cases r <;> simp <;> omega
  · cases h
theorem rnext_ok : SpecOK Try.prog 14 (fspecS nextS) := fspecOK_pure call1 (fun vs w => Try.call14 vs w) fun args m ps v h hp => by
  unfold nextS at h
  split at h
  · cases h
    rename_i k a b c d r
    refine ⟨.int .i64 (nextF k a b c d r), ?_, rfl⟩
    simp only [isoL, iso]
    rw [rnext_eq]
    simp only [need_def, ifB_def, impB_def, selB_f, selB_t, selI_def, selX_def, notB_def, andB_def, orB_def, beqB_def, ltB_def, leB_def, eqB_def, seqB_def, eqI_def, eqL_def, eqS_def, eqT_def, imp_def, inI_def, nzI_def, geZ_def, ret_bool, ret_int, Bool.and_eq_true, Bool.or_eq_true, Bool.not_eq_true', Bool.not_eq_false', decide_eq_true_eq, decide_eq_false_iff_not, Bool.and_eq_false_iff, Bool.or_eq_false_iff, Int.not_lt, Int.not_le, true_and, and_true, implies_true, Bool.false_eq_true, Bool.true_eq_false, false_implies, forall_const, reduceCtorEq, if_true, if_false, true_implies, nextF]
    generalize calmF a b c d = e
    cases e <;> cases d <;> cases r <;> simp <;> omega
  · cases h
theorem fsOK : FSOK Try.prog fs := fsOK_cons next_ok (fsOK_cons rnext_ok fs1OK)
theorem callS : CallOK Try.prog (acall tab fs [] fns 100 20) := acall_ok tabOK fsOK specsOK_nil fnsOK (fun hC C => draw_ok tabOK hC mixed C) 20
theorem nextF_range {k a b c : Int} {d r : Bool} : 0 ≤ nextF k a b c d r ∧ nextF k a b c d r ≤ 3 := by
  unfold nextF
  (repeat' split) <;> omega
/-- A counter a step on, staying at its end. -/
theorem step_count {c : Int} (h : 0 ≤ c ∧ c ≤ 2147483647) : selI (ltB 2147483647 (addW .i64 c 1)) 2147483647 (addW .i64 c 1) = min (c + 1) 2147483647 := by
  rw [addW64 (by omega) (by omega)]
  by_cases hc : 2147483647 < c + 1
  · rw [ltB_t.2 hc]; simp only [selI]; omega
  · rw [ltB_f.2 (by omega)]; simp only [selI]; omega
end Go.Proofs.Ytbgifokhlbaapaa.Sx

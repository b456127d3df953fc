/- The modes: what the small functions come to. -/
import Derived.Test.YtbgifokhlbaapaaSxV
import Derived.Test.YtbgifokhlbaapaaSx11
namespace Go.Proofs.Ytbgifokhlbaapaa.Sx
open Go.RowKit
set_option maxRecDepth 100000
set_option maxHeartbeats 4000000
set_option linter.unusedVariables false
set_option linter.unusedSimpArgs false
def calmF (a b c : Int) (d : Bool) : Bool := decide (3 ≤ a) && decide (b ≤ 0) && decide (c ≤ 0) && d
def nextF (k a b c : Int) (d r : Bool) : Int := if k = 3 ∨ a ≤ 0 then 3 else if d = false ∨ a = 1 then 2 else if k = 2 ∧ r = false then 2 else if k = 2 ∨ calmF a b c d = false then 1 else if k = 1 ∧ r = false then 1 else 0
def cal1F (a b c : Int) (d : Bool) (cal : Int) : Int := if calmF a b c d = true then min (cal + 1) 2147483647 else 0
def stepF (now a b c : Int) (d : Bool) (want cal : Int) : Int := nextF now a b c d (decide (want ≤ cal1F a b c d cal))
def calF (now a b c : Int) (d : Bool) (want cal : Int) : Int := if stepF now a b c d want cal = now then cal1F a b c d cal else 0
def okC (want cal st : Int) : Prop := want ≠ 0 ∧ (0 ≤ cal ∧ cal < 2147483647) ∧ 0 ≤ st ∧ st < 2147483647
def nzW (want : Int) : Prop := want ≠ 0
def upC (n : Int) : Int := min (n + 1) 2147483647
def aliveS : FSpec := fun args m => match args with | [] => some ([], .bool true) | _ => none
noncomputable def calmS : FSpec := fun args m => match args with | [.agg [.int .i64 a, .int .i64 b, .int .i64 c, .bool d]] => some ([], .bool (calmF a b c d)) | _ => none
noncomputable def nextS : FSpec := fun args m => match args with | [.int .i64 k, .agg [.int .i64 a, .int .i64 b, .int .i64 c, .bool d], .bool r] => some ([], .int .i64 (nextF k a b c d r)) | _ => none
noncomputable def fs1 : FS := [(8, aliveS), (22, calmS), (23, calmS)]
noncomputable def fs : FS := (9, nextS) :: (14, nextS) :: fs1
def noneF : List AV → OV := fun args => match args with | [.vptr [] [.int .i64 now, .int .i64 want, .int .i64 cal, .int .i64 st]] => some ([nzW want], .bool false) | _ => none
def nowF : List AV → OV := fun args => match args with | [.vptr [] [.int .i64 now, .int .i64 want, .int .i64 cal, .int .i64 st]] => some ([nzW want], .int .i64 now) | _ => none
def calPF : List AV → OV := fun args => match args with | [.vptr [] [.int .i64 now, .int .i64 want, .int .i64 cal, .int .i64 st]] => some ([nzW want], .int .i64 cal) | _ => none
def stepsPF : List AV → OV := fun args => match args with | [.vptr [] [.int .i64 now, .int .i64 want, .int .i64 cal, .int .i64 st]] => some ([nzW want], .int .i64 st) | _ => none
noncomputable def fs2 : FS := (21, pureF noneF) :: fs
noncomputable def fs3 : FS := (12, pureF nowF) :: (18, pureF calPF) :: (19, pureF stepsPF) :: fs2
noncomputable def stepS : List AV → List Blk → AK → Prop := fun args m K => match args, m with
  | [.ptr 0 0, .agg [.int .i64 a, .int .i64 b, .int .i64 c, .bool d]], [.var [.int .i64 now, .int .i64 want, .int .i64 cal, .int .i64 st]] =>
    need (okC want cal st) (K (.ret (.int .i64 (stepF now a b c d want cal))) [.var [.int .i64 (stepF now a b c d want cal), .int .i64 want, .int .i64 (calF now a b c d want cal), .int .i64 (upC st)]] [] [0])
  | _, _ => False
noncomputable def rstepS : List AV → List Blk → AK → Prop := fun args m K => match args, m with
  | [.ptr 0 0, .agg [.int .i64 a, .int .i64 b, .int .i64 c, .bool d]], [.var [.int .i64 want, .int .i64 now, .int .i64 cal, .int .i64 st]] =>
    need (okC want cal st) (K (.ret (.int .i64 (stepF now a b c d want cal))) [.var [.int .i64 want, .int .i64 (stepF now a b c d want cal), .int .i64 (calF now a b c d want cal), .int .i64 (upC st)]] [] [0])
  | _, _ => False
noncomputable def specs3 : Specs := [(11, frameS stepS), (17, frameS rstepS)]
theorem alive_eq  : acall tab [] [] fns 100 20 8 [] [] (fun o m _ _ => freezeO m o = .ret (.bool true)) =
  (eqI 0 0 (eqI 3 3 (eqI 0 0 (eqI 0 0 (eqL true true (eqI 1 1 (eqI 2 2 (eqL false false (eqI 1 1 (eqI 2 2 (eqI 0 0 (eqI 1 1 (eqI 0 0 (eqI 0 0 (eqL true true (eqI 0
    0 (eqI 2 2 (eqL false false (eqI 0 0 (eqI 2 2 (eqI 3 3 (eqI 0 0 (eqI 0 0 (eqL true true (eqI 3 3 (eqI 0 0 (eqI 0 0 (eqL true true (eqI 2 2 (eqI 3 3 (eqI 0 0 (eqI
    0 0 (eqL true true (eqI 1 1 (eqI 2 2 (eqL false false (eqI 1 1 (eqI 2 2 (eqI 3 3 (eqI 0 0 (eqI 0 0 (eqL true true (eqI 2 2 (eqI 3 3 (eqI 0 0 (eqI 0 0 (eqL true true
    (eqI 2 2 (eqI 2 2 (eqL true true (need (eqT true true) (eqI 2 2 (eqI 2 2 (AOut.ret (AV.bool true) = AOut.ret (AV.bool true))))))))))))))))))))))))))))))))))))))))))))))))))))))) := by kernel_rfl
theorem calm_eq (a b c : Int) (d : Bool) : acall tab [] [] fns 100 20 22 [.agg [.int .i64 a, .int .i64 b, .int .i64 c, .bool d]] [] (fun o m _ _ => freezeO m o = .ret (.bool (calmF a b c d))) =
  (AOut.ret (AV.bool (selB (selB (selB (leB 3 a) (leB b 0) false) (leB c 0) false) d false)) = AOut.ret (AV.bool (calmF a b c d))) := by kernel_rfl
theorem rcalm_eq (a b c : Int) (d : Bool) : acall tab [] [] fns 100 20 23 [.agg [.int .i64 a, .int .i64 b, .int .i64 c, .bool d]] [] (fun o m _ _ => freezeO m o = .ret (.bool (calmF a b c d))) =
  (AOut.ret (AV.bool (selB (selB (selB (leB 3 a) (leB b 0) false) (leB c 0) false) d false)) = AOut.ret (AV.bool (calmF a b c d))) := by kernel_rfl
theorem next_eq (k a b c : Int) (d r : Bool) : acall tab fs1 [] fns 100 20 9 [.int .i64 k, .agg [.int .i64 a, .int .i64 b, .int .i64 c, .bool d], .bool r] [] (fun o m _ _ => freezeO m o = .ret (.int .i64 (nextF k a b c d r))) =
  (ifB (selB (eqB k 3) true (leB a 0)) (AOut.ret (AV.int IntKind.i64 3) = AOut.ret (AV.int IntKind.i64 (nextF k a b c d r))) (ifB (selB (notB d) true (eqB a 1)) (AOut.ret
    (AV.int IntKind.i64 2) = AOut.ret (AV.int IntKind.i64 (nextF k a b c d r))) (ifB (selB (eqB k 2) (notB r) false) (AOut.ret (AV.int IntKind.i64 2) = AOut.ret (AV.int
    IntKind.i64 (nextF k a b c d r))) (ifB (selB (eqB k 2) true (notB (calmF a b c d))) (AOut.ret (AV.int IntKind.i64 1) = AOut.ret (AV.int IntKind.i64 (nextF k a b
    c d r))) (ifB (selB (eqB k 1) (notB r) false) (AOut.ret (AV.int IntKind.i64 1) = AOut.ret (AV.int IntKind.i64 (nextF k a b c d r))) (AOut.ret (AV.int IntKind.i64
    0) = AOut.ret (AV.int IntKind.i64 (nextF k a b c d r)))))))) := by kernel_rfl
theorem rnext_eq (k a b c : Int) (d r : Bool) : acall tab fs1 [] fns 100 20 14 [.int .i64 k, .agg [.int .i64 a, .int .i64 b, .int .i64 c, .bool d], .bool r] [] (fun o m _ _ => freezeO m o = .ret (.int .i64 (nextF k a b c d r))) =
  (ifB (selB (eqB k 3) true (leB a 0)) (AOut.ret (AV.int IntKind.i64 3) = AOut.ret (AV.int IntKind.i64 (nextF k a b c d r))) (ifB (selB (notB d) true (eqB a 1)) (AOut.ret
    (AV.int IntKind.i64 2) = AOut.ret (AV.int IntKind.i64 (nextF k a b c d r))) (ifB (selB (eqB k 2) (notB r) false) (AOut.ret (AV.int IntKind.i64 2) = AOut.ret (AV.int
    IntKind.i64 (nextF k a b c d r))) (ifB (eqB k 2) (AOut.ret (AV.int IntKind.i64 1) = AOut.ret (AV.int IntKind.i64 (nextF k a b c d r))) (ifB (selB (notB (calmF a
    b c d)) true (selB (eqB k 1) (notB r) false)) (AOut.ret (AV.int IntKind.i64 1) = AOut.ret (AV.int IntKind.i64 (nextF k a b c d r))) (AOut.ret (AV.int IntKind.i64
    0) = AOut.ret (AV.int IntKind.i64 (nextF k a b c d r)))))))) := by kernel_rfl
theorem none_eq (now want cal st : Int) : acall tab fs [] fns 100 20 21 [.vptr [] [.int .i64 now, .int .i64 want, .int .i64 cal, .int .i64 st]] [] (fun o m _ _ => freezeO m o = .ret (.bool false)) =
  (AOut.ret (AV.bool (eqB want 0)) = AOut.ret (AV.bool false)) := by kernel_rfl
theorem now_eq (now want cal st : Int) : acall tab fs2 [] fns 100 20 12 [.vptr [] [.int .i64 now, .int .i64 want, .int .i64 cal, .int .i64 st]] [] (fun o m _ _ => freezeO m o = .ret (.int .i64 now)) =
  (need (nzW want) (AOut.ret (AV.int IntKind.i64 now) = AOut.ret (AV.int IntKind.i64 now))) := by kernel_rfl
theorem calP_eq (now want cal st : Int) : acall tab fs2 [] fns 100 20 18 [.vptr [] [.int .i64 now, .int .i64 want, .int .i64 cal, .int .i64 st]] [] (fun o m _ _ => freezeO m o = .ret (.int .i64 cal)) =
  (need (nzW want) (AOut.ret (AV.int IntKind.i64 cal) = AOut.ret (AV.int IntKind.i64 cal))) := by kernel_rfl
theorem stepsP_eq (now want cal st : Int) : acall tab fs2 [] fns 100 20 19 [.vptr [] [.int .i64 now, .int .i64 want, .int .i64 cal, .int .i64 st]] [] (fun o m _ _ => freezeO m o = .ret (.int .i64 st)) =
  (need (nzW want) (AOut.ret (AV.int IntKind.i64 st) = AOut.ret (AV.int IntKind.i64 st))) := by kernel_rfl
theorem step_eq (K : AK) (now want cal st a b c : Int) (d : Bool) : acall tab fs3 [] fns 100 20 11 [.ptr 0 0, .agg [.int .i64 a, .int .i64 b, .int .i64 c, .bool d]] [.var [.int .i64 now, .int .i64 want, .int .i64 cal, .int .i64 st]] K =
  (need (nzW want) (ifB (notB (calmF a b c d)) (eqI now now (eqI a a (eqI b b (eqI c c (eqL d d (eqI 0 0 (eqI want want (eqL (leB want 0) (leB want 0) (eqI 0 0 (eqI
    want want (ifB (notB (eqB (nextF now a b c d (leB want 0)) now)) (K (AOut.ret (AV.int IntKind.i64 (nextF now a b c d (leB want 0)))) [Blk.var [AV.int IntKind.i64
    (nextF now a b c d (leB want 0)), AV.int IntKind.i64 want, AV.int IntKind.i64 0, AV.int IntKind.i64 (selI (ltB 2147483647 (addW IntKind.i64 st 1)) 2147483647 (addW
    IntKind.i64 st 1))]] [] [0]) (K (AOut.ret (AV.int IntKind.i64 (nextF now a b c d (leB want 0)))) [Blk.var [AV.int IntKind.i64 (nextF now a b c d (leB want 0)), AV.int
    IntKind.i64 want, AV.int IntKind.i64 0, AV.int IntKind.i64 (selI (ltB 2147483647 (addW IntKind.i64 st 1)) 2147483647 (addW IntKind.i64 st 1))]] [] [0]))))))))))))
    (eqI now now (eqI a a (eqI b b (eqI c c (eqL d d (eqI (selI (ltB 2147483647 (addW IntKind.i64 cal 1)) 2147483647 (addW IntKind.i64 cal 1)) (selI (ltB 2147483647
    (addW IntKind.i64 cal 1)) 2147483647 (addW IntKind.i64 cal 1)) (eqI want want (eqL (leB want (selI (ltB 2147483647 (addW IntKind.i64 cal 1)) 2147483647 (addW IntKind.i64
    cal 1))) (leB want (selI (ltB 2147483647 (addW IntKind.i64 cal 1)) 2147483647 (addW IntKind.i64 cal 1))) (eqI (selI (ltB 2147483647 (addW IntKind.i64 cal 1)) 2147483647
    (addW IntKind.i64 cal 1)) (selI (ltB 2147483647 (addW IntKind.i64 cal 1)) 2147483647 (addW IntKind.i64 cal 1)) (eqI want want (ifB (notB (eqB (nextF now a b c d
    (leB want (selI (ltB 2147483647 (addW IntKind.i64 cal 1)) 2147483647 (addW IntKind.i64 cal 1)))) now)) (K (AOut.ret (AV.int IntKind.i64 (nextF now a b c d (leB want
    (selI (ltB 2147483647 (addW IntKind.i64 cal 1)) 2147483647 (addW IntKind.i64 cal 1)))))) [Blk.var [AV.int IntKind.i64 (nextF now a b c d (leB want (selI (ltB 2147483647
    (addW IntKind.i64 cal 1)) 2147483647 (addW IntKind.i64 cal 1)))), AV.int IntKind.i64 want, AV.int IntKind.i64 0, AV.int IntKind.i64 (selI (ltB 2147483647 (addW IntKind.i64
    st 1)) 2147483647 (addW IntKind.i64 st 1))]] [] [0]) (K (AOut.ret (AV.int IntKind.i64 (nextF now a b c d (leB want (selI (ltB 2147483647 (addW IntKind.i64 cal 1))
    2147483647 (addW IntKind.i64 cal 1)))))) [Blk.var [AV.int IntKind.i64 (nextF now a b c d (leB want (selI (ltB 2147483647 (addW IntKind.i64 cal 1)) 2147483647 (addW
    IntKind.i64 cal 1)))), AV.int IntKind.i64 want, AV.int IntKind.i64 (selI (ltB 2147483647 (addW IntKind.i64 cal 1)) 2147483647 (addW IntKind.i64 cal 1)), AV.int IntKind.i64
    (selI (ltB 2147483647 (addW IntKind.i64 st 1)) 2147483647 (addW IntKind.i64 st 1))]] [] [0])))))))))))))) := by kernel_rfl
theorem rstep_eq (K : AK) (now want cal st a b c : Int) (d : Bool) : acall tab fs3 [] fns 100 20 17 [.ptr 0 0, .agg [.int .i64 a, .int .i64 b, .int .i64 c, .bool d]] [.var [.int .i64 want, .int .i64 now, .int .i64 cal, .int .i64 st]] K =
  (ifB (calmF a b c d) (eqI now now (eqI a a (eqI b b (eqI c c (eqL d d (eqI (addW IntKind.i64 cal 1) (addW IntKind.i64 cal 1) (eqI want want (eqL (leB want (addW IntKind.i64
    cal 1)) (leB want (addW IntKind.i64 cal 1)) (eqI (addW IntKind.i64 cal 1) (addW IntKind.i64 cal 1) (eqI want want (ifB (notB (eqB (nextF now a b c d (leB want (addW
    IntKind.i64 cal 1))) now)) (K (AOut.ret (AV.int IntKind.i64 (nextF now a b c d (leB want (addW IntKind.i64 cal 1))))) [Blk.var [AV.int IntKind.i64 want, AV.int IntKind.i64
    (nextF now a b c d (leB want (addW IntKind.i64 cal 1))), AV.int IntKind.i64 0, AV.int IntKind.i64 (addW IntKind.i64 st 1)]] [] [0]) (K (AOut.ret (AV.int IntKind.i64
    (nextF now a b c d (leB want (addW IntKind.i64 cal 1))))) [Blk.var [AV.int IntKind.i64 want, AV.int IntKind.i64 (nextF now a b c d (leB want (addW IntKind.i64 cal
    1))), AV.int IntKind.i64 (addW IntKind.i64 cal 1), AV.int IntKind.i64 (addW IntKind.i64 st 1)]] [] [0])))))))))))) (eqI now now (eqI a a (eqI b b (eqI c c (eqL d
    d (eqI 0 0 (eqI want want (eqL (leB want 0) (leB want 0) (eqI 0 0 (eqI want want (ifB (notB (eqB (nextF now a b c d (leB want 0)) now)) (K (AOut.ret (AV.int IntKind.i64
    (nextF now a b c d (leB want 0)))) [Blk.var [AV.int IntKind.i64 want, AV.int IntKind.i64 (nextF now a b c d (leB want 0)), AV.int IntKind.i64 0, AV.int IntKind.i64
    (addW IntKind.i64 st 1)]] [] [0]) (K (AOut.ret (AV.int IntKind.i64 (nextF now a b c d (leB want 0)))) [Blk.var [AV.int IntKind.i64 want, AV.int IntKind.i64 (nextF
    now a b c d (leB want 0)), AV.int IntKind.i64 0, AV.int IntKind.i64 (addW IntKind.i64 st 1)]] [] [0]))))))))))))) := by kernel_rfl
theorem call0 : CallOK Try.prog (acall tab [] [] fns 100 20) := acall_ok tabOK fsOK_nil specsOK_nil fnsOK (fun hC C => draw_ok tabOK hC mixed C) 20
theorem alive_ok : SpecOK Try.prog 8 (fspecS aliveS) := fspecOK_pure call0 (fun vs w => Try.call8 vs w) fun args m ps v h hp => by
  unfold aliveS at h
  split at h
  · cases h
    exact ⟨.bool true, by simp only [isoL]; rw [alive_eq]; simp only [need_def, ifB_def, impB_def, selB_f, selB_t, selI_def, selX_def, notB_def, andB_def, orB_def, beqB_def, ltB_def, leB_def, eqB_def, seqB_def, eqI_def, eqL_def, eqS_def, eqD_def, eqT_def, imp_def, inI_def, nzI_def, geZ_def, ret_bool, ret_int, Bool.and_eq_true, Bool.or_eq_true, Bool.not_eq_true', Bool.not_eq_false', decide_eq_true_eq, decide_eq_false_iff_not, Bool.and_eq_false_iff, Bool.or_eq_false_iff, Int.not_lt, Int.not_le, true_and, and_true, implies_true, Bool.false_eq_true, Bool.true_eq_false, false_implies, forall_const, reduceCtorEq, if_true, if_false, true_implies], rfl⟩
  · cases h
theorem calm_ok : SpecOK Try.prog 22 (fspecS calmS) := fspecOK_pure call0 (fun vs w => Try.call22 vs w) fun args m ps v h hp => by
  unfold calmS at h
  split at h
  · cases h
    rename_i a b c d
    exact ⟨.bool (calmF a b c d), by simp only [isoL, iso]; rw [calm_eq]; simp only [need_def, ifB_def, impB_def, selB_f, selB_t, selI_def, selX_def, notB_def, andB_def, orB_def, beqB_def, ltB_def, leB_def, eqB_def, seqB_def, eqI_def, eqL_def, eqS_def, eqD_def, eqT_def, imp_def, inI_def, nzI_def, geZ_def, ret_bool, ret_int, Bool.and_eq_true, Bool.or_eq_true, Bool.not_eq_true', Bool.not_eq_false', decide_eq_true_eq, decide_eq_false_iff_not, Bool.and_eq_false_iff, Bool.or_eq_false_iff, Int.not_lt, Int.not_le, true_and, and_true, implies_true, Bool.false_eq_true, Bool.true_eq_false, false_implies, forall_const, reduceCtorEq, if_true, if_false, true_implies, calmF], rfl⟩
  · cases h
theorem rcalm_ok : SpecOK Try.prog 23 (fspecS calmS) := fspecOK_pure call0 (fun vs w => Try.call23 vs w) fun args m ps v h hp => by
  unfold calmS at h
  split at h
  · cases h
    rename_i a b c d
    exact ⟨.bool (calmF a b c d), by simp only [isoL, iso]; rw [rcalm_eq]; simp only [need_def, ifB_def, impB_def, selB_f, selB_t, selI_def, selX_def, notB_def, andB_def, orB_def, beqB_def, ltB_def, leB_def, eqB_def, seqB_def, eqI_def, eqL_def, eqS_def, eqD_def, eqT_def, imp_def, inI_def, nzI_def, geZ_def, ret_bool, ret_int, Bool.and_eq_true, Bool.or_eq_true, Bool.not_eq_true', Bool.not_eq_false', decide_eq_true_eq, decide_eq_false_iff_not, Bool.and_eq_false_iff, Bool.or_eq_false_iff, Int.not_lt, Int.not_le, true_and, and_true, implies_true, Bool.false_eq_true, Bool.true_eq_false, false_implies, forall_const, reduceCtorEq, if_true, if_false, true_implies, calmF], rfl⟩
  · cases h
theorem fs1OK : FSOK Try.prog fs1 := fsOK_cons alive_ok (fsOK_cons calm_ok (fsOK_cons rcalm_ok fsOK_nil))
theorem call1 : CallOK Try.prog (acall tab fs1 [] fns 100 20) := acall_ok tabOK fs1OK specsOK_nil fnsOK (fun hC C => draw_ok tabOK hC mixed C) 20
theorem next_ok : SpecOK Try.prog 9 (fspecS nextS) := fspecOK_pure call1 (fun vs w => Try.call9 vs w) fun args m ps v h hp => by
  unfold nextS at h
  split at h
  · cases h
    rename_i k a b c d r
    refine ⟨.int .i64 (nextF k a b c d r), ?_, rfl⟩
    simp only [isoL, iso]
    rw [next_eq]
    simp only [need_def, ifB_def, impB_def, selB_f, selB_t, selI_def, selX_def, notB_def, andB_def, orB_def, beqB_def, ltB_def, leB_def, eqB_def, seqB_def, eqI_def, eqL_def, eqS_def, eqD_def, eqT_def, imp_def, inI_def, nzI_def, geZ_def, ret_bool, ret_int, Bool.and_eq_true, Bool.or_eq_true, Bool.not_eq_true', Bool.not_eq_false', decide_eq_true_eq, decide_eq_false_iff_not, Bool.and_eq_false_iff, Bool.or_eq_false_iff, Int.not_lt, Int.not_le, true_and, and_true, implies_true, Bool.false_eq_true, Bool.true_eq_false, false_implies, forall_const, reduceCtorEq, if_true, if_false, true_implies, nextF]
    generalize calmF a b c d = e
    cases e <;> cases d <;> cases r <;> simp <;> omega
  · cases h
theorem rnext_ok : SpecOK Try.prog 14 (fspecS nextS) := fspecOK_pure call1 (fun vs w => Try.call14 vs w) fun args m ps v h hp => by
  unfold nextS at h
  split at h
  · cases h
    rename_i k a b c d r
    refine ⟨.int .i64 (nextF k a b c d r), ?_, rfl⟩
    simp only [isoL, iso]
    rw [rnext_eq]
    simp only [need_def, ifB_def, impB_def, selB_f, selB_t, selI_def, selX_def, notB_def, andB_def, orB_def, beqB_def, ltB_def, leB_def, eqB_def, seqB_def, eqI_def, eqL_def, eqS_def, eqD_def, eqT_def, imp_def, inI_def, nzI_def, geZ_def, ret_bool, ret_int, Bool.and_eq_true, Bool.or_eq_true, Bool.not_eq_true', Bool.not_eq_false', decide_eq_true_eq, decide_eq_false_iff_not, Bool.and_eq_false_iff, Bool.or_eq_false_iff, Int.not_lt, Int.not_le, true_and, and_true, implies_true, Bool.false_eq_true, Bool.true_eq_false, false_implies, forall_const, reduceCtorEq, if_true, if_false, true_implies, nextF]
    generalize calmF a b c d = e
    cases e <;> cases d <;> cases r <;> simp <;> omega
  · cases h
theorem fsOK : FSOK Try.prog fs := fsOK_cons next_ok (fsOK_cons rnext_ok fs1OK)
theorem none_ok : SpecOK Try.prog 21 (fspecS (pureF noneF)) := pureF_ok (acall_ok tabOK fsOK specsOK_nil fnsOK (fun hC C => draw_ok tabOK hC mixed C) 20) (fun vs w => Try.call21 vs w) fun args ps v h hp => by
  unfold noneF at h
  split at h
  · cases h
    rw [none_eq]
    have := (allP_cons.1 hp).1
    simp only [need_def, ifB_def, impB_def, selB_f, selB_t, selI_def, selX_def, notB_def, andB_def, orB_def, beqB_def, ltB_def, leB_def, eqB_def, seqB_def, eqI_def, eqL_def, eqS_def, eqD_def, eqT_def, imp_def, inI_def, nzI_def, geZ_def, ret_bool, ret_int, Bool.and_eq_true, Bool.or_eq_true, Bool.not_eq_true', Bool.not_eq_false', decide_eq_true_eq, decide_eq_false_iff_not, Bool.and_eq_false_iff, Bool.or_eq_false_iff, Int.not_lt, Int.not_le, true_and, and_true, implies_true, Bool.false_eq_true, Bool.true_eq_false, false_implies, forall_const, reduceCtorEq, if_true, if_false, true_implies]
    exact this
  · cases h
theorem fs2OK : FSOK Try.prog fs2 := fsOK_cons none_ok fsOK
theorem call2 : CallOK Try.prog (acall tab fs2 [] fns 100 20) := acall_ok tabOK fs2OK specsOK_nil fnsOK (fun hC C => draw_ok tabOK hC mixed C) 20
theorem now_ok : SpecOK Try.prog 12 (fspecS (pureF nowF)) := pureF_ok call2 (fun vs w => Try.call12 vs w) fun args ps v h hp => by
  unfold nowF at h
  split at h
  · cases h
    rw [now_eq]
    exact ⟨(allP_cons.1 hp).1, rfl⟩
  · cases h
theorem calP_ok : SpecOK Try.prog 18 (fspecS (pureF calPF)) := pureF_ok call2 (fun vs w => Try.call18 vs w) fun args ps v h hp => by
  unfold calPF at h
  split at h
  · cases h
    rw [calP_eq]
    exact ⟨(allP_cons.1 hp).1, rfl⟩
  · cases h
theorem stepsP_ok : SpecOK Try.prog 19 (fspecS (pureF stepsPF)) := pureF_ok call2 (fun vs w => Try.call19 vs w) fun args ps v h hp => by
  unfold stepsPF at h
  split at h
  · cases h
    rw [stepsP_eq]
    exact ⟨(allP_cons.1 hp).1, rfl⟩
  · cases h
theorem fs3OK : FSOK Try.prog fs3 := fsOK_cons now_ok (fsOK_cons calP_ok (fsOK_cons stepsP_ok fs2OK))
theorem call3 : CallOK Try.prog (acall tab fs3 [] fns 100 20) := acall_ok tabOK fs3OK specsOK_nil fnsOK (fun hC C => draw_ok tabOK hC mixed C) 20
theorem sel_up {c : Int} (h : 0 ≤ c ∧ c < 2147483647) : selI (ltB 2147483647 (addW .i64 c 1)) 2147483647 (addW .i64 c 1) = upC c := by
  rw [addW64 (by omega) (by omega), ltB_f.2 (by omega)]
  simp only [selI, upC]; omega
theorem add_up {c : Int} (h : 0 ≤ c ∧ c < 2147483647) : addW .i64 c 1 = upC c := by
  rw [addW64 (by omega) (by omega)]
  simp only [upC]; omega
theorem step_ok : SpecOK Try.prog 11 stepS := specOK_of call3 (fun vs w => Try.call11 vs w) fun args m K h => by
  unfold stepS at h
  split at h
  · rename_i a b c d now want cal st
    rw [step_eq]
    obtain ⟨⟨h1, h2, h3⟩, h⟩ := h
    simp only [sel_up h2, sel_up h3]
    simp only [need_def, ifB_def, impB_def, selB_f, selB_t, selI_def, selX_def, notB_def, andB_def, orB_def, beqB_def, ltB_def, leB_def, eqB_def, seqB_def, eqI_def, eqL_def, eqS_def, eqD_def, eqT_def, imp_def, inI_def, nzI_def, geZ_def, ret_bool, ret_int, Bool.and_eq_true, Bool.or_eq_true, Bool.not_eq_true', Bool.not_eq_false', decide_eq_true_eq, decide_eq_false_iff_not, Bool.and_eq_false_iff, Bool.or_eq_false_iff, Int.not_lt, Int.not_le, true_and, and_true, implies_true, Bool.false_eq_true, Bool.true_eq_false, false_implies, forall_const, reduceCtorEq, if_true, if_false, true_implies, eq_self]
    refine ⟨h1, fun hq => ?_, fun hq => ?_⟩
    · have e : cal1F a b c d cal = 0 := by simp [cal1F, hq]
      unfold calF stepF at h
      rw [e] at h
      generalize nextF now a b c d (decide (want ≤ 0)) = N at h ⊢
      refine ⟨fun hn => ?_, fun hn => ?_⟩ <;> (first | rw [if_pos hn] at h | rw [if_neg hn] at h) <;> exact h
    · have e : cal1F a b c d cal = upC cal := by simp [cal1F, hq, upC]
      unfold calF stepF at h
      rw [e] at h
      generalize nextF now a b c d (decide (want ≤ upC cal)) = N at h ⊢
      refine ⟨fun hn => ?_, fun hn => ?_⟩ <;> (first | rw [if_pos hn] at h | rw [if_neg hn] at h) <;> exact h
  · exact h.elim
theorem rstep_ok : SpecOK Try.prog 17 rstepS := specOK_of call3 (fun vs w => Try.call17 vs w) fun args m K h => by
  unfold rstepS at h
  split at h
  · rename_i a b c d want now cal st
    rw [rstep_eq]
    obtain ⟨⟨h1, h2, h3⟩, h⟩ := h
    simp only [add_up h2, add_up h3]
    simp only [need_def, ifB_def, impB_def, selB_f, selB_t, selI_def, selX_def, notB_def, andB_def, orB_def, beqB_def, ltB_def, leB_def, eqB_def, seqB_def, eqI_def, eqL_def, eqS_def, eqD_def, eqT_def, imp_def, inI_def, nzI_def, geZ_def, ret_bool, ret_int, Bool.and_eq_true, Bool.or_eq_true, Bool.not_eq_true', Bool.not_eq_false', decide_eq_true_eq, decide_eq_false_iff_not, Bool.and_eq_false_iff, Bool.or_eq_false_iff, Int.not_lt, Int.not_le, true_and, and_true, implies_true, Bool.false_eq_true, Bool.true_eq_false, false_implies, forall_const, reduceCtorEq, if_true, if_false, true_implies, eq_self]
    refine ⟨fun hq => ?_, fun hq => ?_⟩
    · have e : cal1F a b c d cal = upC cal := by simp [cal1F, hq, upC]
      unfold calF stepF at h
      rw [e] at h
      generalize nextF now a b c d (decide (want ≤ upC cal)) = N at h ⊢
      refine ⟨fun hn => ?_, fun hn => ?_⟩ <;> (first | rw [if_pos hn] at h | rw [if_neg hn] at h) <;> exact h
    · have e : cal1F a b c d cal = 0 := by simp [cal1F, hq]
      unfold calF stepF at h
      rw [e] at h
      generalize nextF now a b c d (decide (want ≤ 0)) = N at h ⊢
      refine ⟨fun hn => ?_, fun hn => ?_⟩ <;> (first | rw [if_pos hn] at h | rw [if_neg hn] at h) <;> exact h
  · exact h.elim
theorem specs3OK : SpecsOK Try.prog specs3 := specsOK_cons (frame_ok step_ok) (specsOK_cons (frame_ok rstep_ok) specsOK_nil)
theorem callS3 : CallOK Try.prog (acall tab fs3 specs3 fns 100 20) := acall_ok tabOK fs3OK specs3OK fnsOK (fun hC C => draw_ok tabOK hC mixed C) 20
theorem callS : CallOK Try.prog (acall tab fs [] fns 100 20) := acall_ok tabOK fsOK specsOK_nil fnsOK (fun hC C => draw_ok tabOK hC mixed C) 20
theorem nextF_range {k a b c : Int} {d r : Bool} : 0 ≤ nextF k a b c d r ∧ nextF k a b c d r ≤ 3 := by
  unfold nextF
  (repeat' split) <;> omega
/-- A counter a step on, staying at its end. -/
theorem step_count {c : Int} (h : 0 ≤ c ∧ c ≤ 2147483647) : selI (ltB 2147483647 (addW .i64 c 1)) 2147483647 (addW .i64 c 1) = min (c + 1) 2147483647 := by
  rw [addW64 (by omega) (by omega)]
  by_cases hc : 2147483647 < c + 1
  · rw [ltB_t.2 hc]; simp only [selI]; omega
  · rw [ltB_f.2 (by omega)]; simp only [selI]; omega
end Go.Proofs.Ytbgifokhlbaapaa.Sx

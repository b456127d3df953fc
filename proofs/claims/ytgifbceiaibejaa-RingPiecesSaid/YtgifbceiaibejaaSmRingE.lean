/- The counters' number, told. -/
import Derived.Test.YtgifbceiaibejaaSmRingD
namespace Go.Proofs.Ytgifbceiaibejaa.Sx
open Go.RowKit
set_option maxRecDepth 100000
set_option maxHeartbeats 4000000
set_option linter.unusedVariables false
set_option linter.unusedSimpArgs false
noncomputable def rnowS : List AV → OV := fun args => match args with | [.vptr [] [.int .i64 now, .int .i64 most]] => some ([], .int .i64 now) | _ => none
theorem rnow_eq (now most : Int) : acall tab fs_rsize specs_push fns 100 20 22 [.vptr [] [.int .i64 now, .int .i64 most]] [] (fun o mm _ _ => resN (.any) mm o = .ret (.int .i64 now)) =
  (AOut.ret (AV.int IntKind.i64 now) = AOut.ret (AV.int IntKind.i64 now)) := by kernel_rfl
theorem rnow_ok : SpecOK Try.prog 22 (fspecS (pureN [] rnowS)) := pureN_ok (mkCall fsOK_rsize specsOK_push fnsOK) (.any) (fun vs w => Try.call22 vs w) fun args ps v h hp hw => by
  unfold rnowS at h
  split at h
  · cases h
    rename_i now most
    rw [rnow_eq]
    refine ⟨?_⟩
    simp only [allP_cons, allP_nil, and_true] at hp
    simp only [wfAL, wfA, wfS, wfM, wfB, and_true, true_and, wfT_int, wfT_str, wfT_bool, wfT_prod] at hw
    first | (simp only [need_def, appL_def, ifB_def, impB_def, selB_f, selB_t, selI_def, selX_def, notB_def, andB_def, orB_def, beqB_def, ltB_def, leB_def, eqB_def, seqB_def, eqI_def, eqL_def, eqS_def, eqD_def, eqT_def, imp_def, inI_def, nzI_def, geZ_def, ret_bool, ret_int, Bool.and_eq_true, Bool.or_eq_true, Bool.not_eq_true', Bool.not_eq_false', decide_eq_true_eq, decide_eq_false_iff_not, Bool.and_eq_false_iff, Bool.or_eq_false_iff, Int.not_lt, Int.not_le, true_and, and_true, implies_true, Bool.false_eq_true, Bool.true_eq_false, false_implies, forall_const, reduceCtorEq, if_true, if_false, true_implies, false_and, and_false, false_or, or_false, true_or, or_true]; done) | (simp only [need_def, appL_def, ifB_def, impB_def, selB_f, selB_t, selI_def, selX_def, notB_def, andB_def, orB_def, beqB_def, ltB_def, leB_def, eqB_def, seqB_def, eqI_def, eqL_def, eqS_def, eqD_def, eqT_def, imp_def, inI_def, nzI_def, geZ_def, ret_bool, ret_int, Bool.and_eq_true, Bool.or_eq_true, Bool.not_eq_true', Bool.not_eq_false', decide_eq_true_eq, decide_eq_false_iff_not, Bool.and_eq_false_iff, Bool.or_eq_false_iff, Int.not_lt, Int.not_le, true_and, and_true, implies_true, Bool.false_eq_true, Bool.true_eq_false, false_implies, forall_const, reduceCtorEq, if_true, if_false, true_implies, false_and, and_false, false_or, or_false, true_or, or_true]; rfl)
  · cases h
noncomputable def FF_rnow : FSpec := pureN [] rnowS
theorem FFok_rnow : SpecOK Try.prog 22 (fspecS FF_rnow) := rnow_ok
noncomputable def fs_rnow : FS := (22, FF_rnow) :: fs_rsize
theorem fsOK_rnow : FSOK Try.prog fs_rnow := fsOK_cons FFok_rnow fsOK_rsize
theorem pushG_app : ∀ (l m : List Int) (xs : List Int) (p n : Int), pushG xs p n (l ++ m) = pushG (pushG xs p n l).1 (pushG xs p n l).2.1 (pushG xs p n l).2.2 m
  | [], m, xs, p, n => rfl
  | v :: l, m, xs, p, n => by
    simp only [List.cons_append, pushG]
    exact pushG_app l m _ _ _
theorem pushG_len : ∀ (l : List Int) (xs : List Int) (p n : Int), lenI (pushG xs p n l).1 = lenI xs
  | [], xs, p, n => rfl
  | v :: l, xs, p, n => by
    simp only [pushG]
    rw [pushG_len l, lenI_setI]
theorem pushG_ok : ∀ (l : List Int) (xs : List Int) (p n : Int), ringOK xs p n → ringOK (pushG xs p n l).1 (pushG xs p n l).2.1 (pushG xs p n l).2.2
  | [], xs, p, n, h => h
  | v :: l, xs, p, n, h => by
    simp only [pushG]
    refine pushG_ok l _ _ _ ?_
    unfold ringOK at h ⊢
    rw [lenI_setI]
    refine ⟨?_, ?_, ?_, ?_, h.2.2.2.2⟩ <;> split <;> omega
theorem upG_app (most : Int) : ∀ (l m : List Int) (now : Int), upG most now (l ++ m) = upG most (upG most now l) m
  | [], m, now => rfl
  | v :: l, m, now => by
    simp only [List.cons_append, upG]
    exact upG_app most l m _
theorem upG_ok (most : Int) : ∀ (l : List Int) (now : Int), okN now most → okN (upG most now l) most
  | [], now, h => h
  | v :: l, now, h => by
    simp only [upG]
    refine upG_ok most l _ ?_
    unfold okN at h ⊢
    split <;> omega
theorem sub_app {α : Type} {l : List α} {k : Int} (h0 : 0 ≤ k) (h1 : k ≤ lenI l) : subL l 0 k ++ subL l k (lenI l) = l := by
  unfold subL lenI
  have : ((l.length : Int).toNat) = l.length := by omega
  rw [this, List.take_length]
  show (l.take k.toNat).drop 0 ++ l.drop k.toNat = l
  rw [List.drop_zero, List.take_append_drop]
end Go.Proofs.Ytgifbceiaibejaa.Sx


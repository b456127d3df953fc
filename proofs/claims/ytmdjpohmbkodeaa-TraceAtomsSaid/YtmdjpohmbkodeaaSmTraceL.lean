/- Numbers of six halves (as chapter 19's), and their products. -/
import Derived.Test.YtmdjpohmbkodeaaSmTraceJ
namespace Go.Proofs.Ytmdjpohmbkodeaa.Sx
open Go.RowKit
set_option maxRecDepth 100000
set_option maxHeartbeats 4000000
set_option linter.unusedVariables false
set_option linter.unusedSimpArgs false
def magB (d0 d1 d2 d3 d4 d5 : Int) : Int := d0 + 4294967296 * d1 + 18446744073709551616 * d2 + 79228162514264337593543950336 * d3 + 340282366920938463463374607431768211456 * d4 + 1461501637330902918203684832716283019655932542976 * d5
def dgtB (d0 d1 d2 d3 d4 d5 : Int) : Prop := (0 ≤ d0 ∧ d0 < 4294967296) ∧ (0 ≤ d1 ∧ d1 < 4294967296) ∧ (0 ≤ d2 ∧ d2 < 4294967296) ∧ (0 ≤ d3 ∧ d3 < 4294967296) ∧ (0 ≤ d4 ∧ d4 < 4294967296) ∧ (0 ≤ d5 ∧ d5 < 4294967296)
def bigV (m : Bool) (d0 d1 d2 d3 d4 d5 : Int) : Int := if m = true then -magB d0 d1 d2 d3 d4 d5 else magB d0 d1 d2 d3 d4 d5
def okB (m : Bool) (d0 d1 d2 d3 d4 d5 : Int) : Prop := dgtB d0 d1 d2 d3 d4 d5 ∧ (m = true → magB d0 d1 d2 d3 d4 d5 ≠ 0)
def zeroB (d0 d1 d2 d3 d4 d5 : Int) : Bool := decide (magB d0 d1 d2 d3 d4 d5 = 0)
def cmpI (a b : Int) : Int := if a < b then -1 else if b < a then 1 else 0
def fitsB (a b : Int) : Prop := a + b < 6277101735386680763835789423207666416102355444464034512896
def smallB (a b : Int) : Prop := -6277101735386680763835789423207666416102355444464034512896 < a - b ∧ a - b < 6277101735386680763835789423207666416102355444464034512896
theorem quo_pos {a b : Int} (h0 : 0 ≤ a) (h : a ≤ 9223372036854775807) (hb : 0 < b) : quoW .i64 a b = a / b := by
  unfold quoW
  rw [Int.tdiv_eq_ediv_of_nonneg h0]
  have h1 : 0 ≤ a / b := Int.ediv_nonneg h0 (by omega)
  have h2 : a / b ≤ a := Int.ediv_le_self b h0
  exact wrap64 (by omega) (by omega)
theorem rem_pos {a b : Int} (h0 : 0 ≤ a) : remI a b = a % b := by unfold remI; exact Int.tmod_eq_emod_of_nonneg h0
theorem step_add {a b c : Int} (ha : 0 ≤ a ∧ a < 4294967296) (hb : 0 ≤ b ∧ b < 4294967296) (hc : 0 ≤ c ∧ c ≤ 1) : ∃ r k, remI (addW .i64 (addW .i64 a b) c) 4294967296 = r ∧ quoW .i64 (addW .i64 (addW .i64 a b) c) 4294967296 = k ∧ a + b + c = r + 4294967296 * k ∧ (0 ≤ r ∧ r < 4294967296) ∧ 0 ≤ k ∧ k ≤ 1 := by
  rw [addW64 (a := a) (by omega) (by omega), addW64 (by omega) (by omega), quo_pos (by omega) (by omega) (by omega), rem_pos (by omega)]
  exact ⟨_, _, rfl, rfl, by omega, by omega, by omega, by omega⟩
theorem step_sub {a b c : Int} (ha : 0 ≤ a ∧ a < 4294967296) (hb : 0 ≤ b ∧ b < 4294967296) (hc : 0 ≤ c ∧ c ≤ 1) : ∃ r k, selI (ltB (subW .i64 (subW .i64 a b) c) 0) (addW .i64 (subW .i64 (subW .i64 a b) c) 4294967296) (subW .i64 (subW .i64 a b) c) = r ∧ selI (ltB (subW .i64 (subW .i64 a b) c) 0) 1 0 = k ∧ a - b - c = r - 4294967296 * k ∧ (0 ≤ r ∧ r < 4294967296) ∧ 0 ≤ k ∧ k ≤ 1 := by
  rw [subW64 (a := a) (by omega) (by omega), subW64 (by omega) (by omega), addW64 (by omega) (by omega)]
  refine ⟨_, _, rfl, rfl, ?_⟩
  simp only [selI_def, ltB_def, decide_eq_true_eq]
  split <;> exact ⟨by omega, by omega, by omega, by omega⟩
noncomputable def zeroS : List AV → OV := fun args => match args with | [.agg [.bool m, .int .i64 d0, .int .i64 d1, .int .i64 d2, .int .i64 d3, .int .i64 d4, .int .i64 d5]] => some ([dgtB d0 d1 d2 d3 d4 d5], .bool (zeroB d0 d1 d2 d3 d4 d5)) | _ => none
theorem zero_eq (m : Bool) (d0 d1 d2 d3 d4 d5 : Int) : acall tab fs_alive specs_part fns 100 20 50 [.agg [.bool m, .int .i64 d0, .int .i64 d1, .int .i64 d2, .int .i64 d3, .int .i64 d4, .int .i64 d5]] [] (fun o mm _ _ => resN (.any) mm o = .ret (.bool (zeroB d0 d1 d2 d3 d4 d5))) =
  (AOut.ret (AV.bool (andB (eqB d0 0) (andB (eqB d1 0) (andB (eqB d2 0) (andB (eqB d3 0) (andB (eqB d4 0) (eqB d5 0))))))) = AOut.ret (AV.bool (zeroB d0 d1 d2 d3 d4
    d5))) := by kernel_rfl
theorem zero_ok : SpecOK Try.prog 50 (fspecS (pureN [] zeroS)) := pureN_ok (mkCall fsOK_alive specsOK_part fnsOK) (.any) (fun vs w => Try.call50 vs w) fun args ps v h hp hw => by
  unfold zeroS at h
  split at h
  · cases h
    rename_i m d0 d1 d2 d3 d4 d5
    rw [zero_eq]
    refine ⟨?_⟩
    simp only [allP_cons, allP_nil, and_true] at hp
    simp only [wfAL, wfA, wfS, wfM, wfB, and_true, true_and, wfT_int, wfT_str, wfT_bool, wfT_prod] at hw
    unfold zeroB magB
    unfold dgtB at hp
    simp only [simpsL, implies_true, forall_const, if_true, if_false, reduceCtorEq, AOut.ret.injEq, AV.bool.injEq]
    rw [Bool.eq_iff_iff]
    simp only [Bool.and_eq_true, decide_eq_true_eq]
    omega
  · cases h
noncomputable def FF_zero : FSpec := pureN [] zeroS
theorem FFok_zero : SpecOK Try.prog 50 (fspecS FF_zero) := zero_ok
noncomputable def fs_zero : FS := (50, FF_zero) :: fs_alive
theorem fsOK_zero : FSOK Try.prog fs_zero := fsOK_cons FFok_zero fsOK_alive
noncomputable def addOneS : List AV → List Blk → AK → Prop := fun args m K => match args, m with | [.agg [.bool m, .int .i64 d0, .int .i64 d1, .int .i64 d2, .int .i64 d3, .int .i64 d4, .int .i64 d5]], [] => need (dgtB d0 d1 d2 d3 d4 d5) (need (fitsB (magB d0 d1 d2 d3 d4 d5) 1) (∀ e0 e1 e2 e3 e4 e5 : Int, dgtB e0 e1 e2 e3 e4 e5 → magB e0 e1 e2 e3 e4 e5 = magB d0 d1 d2 d3 d4 d5 + 1 → K (.ret (.agg [.bool m, .int .i64 e0, .int .i64 e1, .int .i64 e2, .int .i64 e3, .int .i64 e4, .int .i64 e5])) [] [] [])) | _, _ => False
theorem addOne_eq (K : AK) (m : Bool) (d0 d1 d2 d3 d4 d5 : Int) : acall tab fs_zero specs_part fns 100 20 52 [.agg [.bool m, .int .i64 d0, .int .i64 d1, .int .i64 d2, .int .i64 d3, .int .i64 d4, .int .i64 d5]] [] K =
  (need (inI 0 6) (need (inI 0 6) (need (inI 0 6) (ifB (ltB (addW IntKind.i64 d0 1) 4294967296) (K (AOut.ret (AV.agg (AV.bool m :: AV.int IntKind.i64 (addW IntKind.i64
    d0 1) :: AV.int IntKind.i64 d1 :: AV.int IntKind.i64 d2 :: AV.int IntKind.i64 d3 :: AV.int IntKind.i64 d4 :: AV.int IntKind.i64 d5 :: []))) ([]) [] []) (need (inI
    0 6) (need (inI 1 6) (need (inI 1 6) (need (inI 1 6) (ifB (ltB (addW IntKind.i64 d1 1) 4294967296) (K (AOut.ret (AV.agg (AV.bool m :: AV.int IntKind.i64 0 :: AV.int
    IntKind.i64 (addW IntKind.i64 d1 1) :: AV.int IntKind.i64 d2 :: AV.int IntKind.i64 d3 :: AV.int IntKind.i64 d4 :: AV.int IntKind.i64 d5 :: []))) ([]) [] []) (need
    (inI 1 6) (need (inI 2 6) (need (inI 2 6) (need (inI 2 6) (ifB (ltB (addW IntKind.i64 d2 1) 4294967296) (K (AOut.ret (AV.agg (AV.bool m :: AV.int IntKind.i64 0 ::
    AV.int IntKind.i64 0 :: AV.int IntKind.i64 (addW IntKind.i64 d2 1) :: AV.int IntKind.i64 d3 :: AV.int IntKind.i64 d4 :: AV.int IntKind.i64 d5 :: []))) ([]) [] [])
    (need (inI 2 6) (need (inI 3 6) (need (inI 3 6) (need (inI 3 6) (ifB (ltB (addW IntKind.i64 d3 1) 4294967296) (K (AOut.ret (AV.agg (AV.bool m :: AV.int IntKind.i64
    0 :: AV.int IntKind.i64 0 :: AV.int IntKind.i64 0 :: AV.int IntKind.i64 (addW IntKind.i64 d3 1) :: AV.int IntKind.i64 d4 :: AV.int IntKind.i64 d5 :: []))) ([]) []
    []) (need (inI 3 6) (need (inI 4 6) (need (inI 4 6) (need (inI 4 6) (ifB (ltB (addW IntKind.i64 d4 1) 4294967296) (K (AOut.ret (AV.agg (AV.bool m :: AV.int IntKind.i64
    0 :: AV.int IntKind.i64 0 :: AV.int IntKind.i64 0 :: AV.int IntKind.i64 0 :: AV.int IntKind.i64 (addW IntKind.i64 d4 1) :: AV.int IntKind.i64 d5 :: []))) ([]) []
    []) (need (inI 4 6) (need (inI 5 6) (need (inI 5 6) (need (inI 5 6) (ifB (ltB (addW IntKind.i64 d5 1) 4294967296) (K (AOut.ret (AV.agg (AV.bool m :: AV.int IntKind.i64
    0 :: AV.int IntKind.i64 0 :: AV.int IntKind.i64 0 :: AV.int IntKind.i64 0 :: AV.int IntKind.i64 0 :: AV.int IntKind.i64 (addW IntKind.i64 d5 1) :: []))) ([]) []
    []) (need (inI 5 6) (K (AOut.ret (AV.agg (AV.bool m :: AV.int IntKind.i64 0 :: AV.int IntKind.i64 0 :: AV.int IntKind.i64 0 :: AV.int IntKind.i64 0 :: AV.int IntKind.i64
    0 :: AV.int IntKind.i64 0 :: []))) ([]) [] []))))))))))))))))))))))))))))))) := by kernel_rfl
theorem addOne_ok : SpecOK Try.prog 52 addOneS := specOK_of (mkCall fsOK_zero specsOK_part fnsOK) (fun vs w => Try.call52 vs w) fun args m K h hw hwm => by
  unfold addOneS at h
  split at h
  · rename_i m d0 d1 d2 d3 d4 d5
    rw [addOne_eq]
    refine ⟨?_⟩
    simp only [wfAL, wfA, wfS, wfM, wfB, and_true, true_and, wfT_int, wfT_str, wfT_bool, wfT_prod] at hw hwm
    obtain ⟨h1, h2, h⟩ := h
    unfold dgtB at h1
    unfold fitsB magB at h2
    have e : ∀ x : Int, 0 ≤ x → x < 4294967296 → addW .i64 x 1 = x + 1 := fun x _ _ => addW64 (by omega) (by omega)
    simp only [e d0 (by omega) (by omega), e d1 (by omega) (by omega), e d2 (by omega) (by omega), e d3 (by omega) (by omega), e d4 (by omega) (by omega), e d5 (by omega) (by omega)]
    simp only [simpsL, implies_true, forall_const, if_true, if_false, reduceCtorEq]
    repeat' (first
      | (apply h <;> first | (unfold dgtB; omega) | (unfold magB; omega))
      | omega
      | decide
      | refine ⟨?_, ?_⟩
      | intro _)
  · exact h.elim
noncomputable def SP_addOne : List AV → List Blk → AK → Prop := (frameS addOneS)
theorem SPok_addOne : SpecOK Try.prog 52 SP_addOne := (frame_ok addOne_ok)
noncomputable def specs_addOne : Specs := (52, SP_addOne) :: specs_part
theorem specsOK_addOne : SpecsOK Try.prog specs_addOne := specsOK_cons SPok_addOne specsOK_part
noncomputable def bofS : List AV → List Blk → AK → Prop := fun args m K => match args, m with | [.int .i64 v], [] => need (rI v) (∀ (m : Bool) (e0 e1 : Int), okB m e0 e1 0 0 0 0 → bigV m e0 e1 0 0 0 0 = v → K (.ret (.agg [.bool m, .int .i64 e0, .int .i64 e1, .int .i64 0, .int .i64 0, .int .i64 0, .int .i64 0])) [] [] []) | _, _ => False
theorem bof_eq (K : AK) (v : Int) : acall tab fs_zero specs_addOne fns 100 20 29 [.int .i64 v] [] K =
  (ifB (ltB v 0) (need (nzI 4294967296) (need (nzI 4294967296) (need (inI 0 6) (need (inI 1 6) (need (dgtB (remI (subW IntKind.i64 0 (addW IntKind.i64 v 1)) 4294967296)
    (quoW IntKind.i64 (subW IntKind.i64 0 (addW IntKind.i64 v 1)) 4294967296) 0 0 0 0) (need (fitsB (magB (remI (subW IntKind.i64 0 (addW IntKind.i64 v 1)) 4294967296)
    (quoW IntKind.i64 (subW IntKind.i64 0 (addW IntKind.i64 v 1)) 4294967296) 0 0 0 0) 1) (∀ (e0 e1 e2 e3 e4 e5 : Int), dgtB e0 e1 e2 e3 e4 e5 → magB e0 e1 e2 e3 e4
    e5 = magB (remI (subW IntKind.i64 0 (addW IntKind.i64 v 1)) 4294967296) (quoW IntKind.i64 (subW IntKind.i64 0 (addW IntKind.i64 v 1)) 4294967296) 0 0 0 0 + 1 → K
    (AOut.ret (AV.agg (AV.bool true :: AV.int IntKind.i64 e0 :: AV.int IntKind.i64 e1 :: AV.int IntKind.i64 e2 :: AV.int IntKind.i64 e3 :: AV.int IntKind.i64 e4 :: AV.int
    IntKind.i64 e5 :: []))) ([]) [] []))))))) (need (nzI 4294967296) (need (nzI 4294967296) (need (inI 0 6) (need (inI 1 6) (K (AOut.ret (AV.agg (AV.bool false :: AV.int
    IntKind.i64 (remI v 4294967296) :: AV.int IntKind.i64 (quoW IntKind.i64 v 4294967296) :: AV.int IntKind.i64 0 :: AV.int IntKind.i64 0 :: AV.int IntKind.i64 0 ::
    AV.int IntKind.i64 0 :: []))) ([]) [] [])))))) := by kernel_rfl
theorem bof_ok : SpecOK Try.prog 29 bofS := specOK_of (mkCall fsOK_zero specsOK_addOne fnsOK) (fun vs w => Try.call29 vs w) fun args m K h hw hwm => by
  unfold bofS at h
  split at h
  · rename_i v
    rw [bof_eq]
    refine ⟨?_⟩
    simp only [wfAL, wfA, wfS, wfM, wfB, and_true, true_and, wfT_int, wfT_str, wfT_bool, wfT_prod] at hw hwm
    obtain ⟨h1, h⟩ := h
    unfold rI at h1
    rw [ifB_def]
    refine ⟨fun hv => ?_, fun hv => ?_⟩
    · have hv := ltB_t.1 hv
      have e1 : addW .i64 v 1 = v + 1 := addW64 (by omega) (by omega)
      have e2 : subW .i64 0 (v + 1) = -(v + 1) := by rw [subW64 (by omega) (by omega)]; omega
      rw [e1, e2, quo_pos (by omega) (by omega) (by omega), rem_pos (by omega)]
      refine ⟨by unfold nzI; omega, by unfold nzI; omega, by unfold inI; omega, by unfold inI; omega, by unfold dgtB; omega, by unfold fitsB magB; omega, fun x0 x1 x2 x3 x4 x5 hd hm => ?_⟩
      have hd' := hd
      unfold dgtB at hd'
      unfold magB at hm
      have z2 : x2 = 0 := by omega
      have z3 : x3 = 0 := by omega
      have z4 : x4 = 0 := by omega
      have z5 : x5 = 0 := by omega
      subst z2 z3 z4 z5
      refine h _ _ _ ⟨hd, fun _ => ?_⟩ ?_
      · unfold magB; omega
      · unfold bigV; rw [if_pos rfl]; unfold magB; omega
    · have hv := ltB_f.1 hv
      rw [quo_pos (by omega) (by omega) (by omega), rem_pos (by omega)]
      refine ⟨by unfold nzI; omega, by unfold nzI; omega, by unfold inI; omega, by unfold inI; omega, h _ _ _ ⟨by unfold dgtB; omega, fun h => by cases h⟩ ?_⟩
      unfold bigV; rw [if_neg (by simp)]; unfold magB; omega
  · exact h.elim
noncomputable def SP_bof : List AV → List Blk → AK → Prop := (frameS bofS)
theorem SPok_bof : SpecOK Try.prog 29 SP_bof := (frame_ok bof_ok)
noncomputable def specs_bof : Specs := (29, SP_bof) :: specs_addOne
theorem specsOK_bof : SpecsOK Try.prog specs_bof := specsOK_cons SPok_bof specsOK_addOne
noncomputable def bsizeS : List AV → OV := fun args => match args with | [.agg [.bool m, .int .i64 d0, .int .i64 d1, .int .i64 d2, .int .i64 d3, .int .i64 d4, .int .i64 d5], .agg [.bool n, .int .i64 e0, .int .i64 e1, .int .i64 e2, .int .i64 e3, .int .i64 e4, .int .i64 e5]] => some ([dgtB d0 d1 d2 d3 d4 d5, dgtB e0 e1 e2 e3 e4 e5], .int .i64 (cmpI (magB d0 d1 d2 d3 d4 d5) (magB e0 e1 e2 e3 e4 e5))) | _ => none
theorem bsize_eq (m : Bool) (d0 d1 d2 d3 d4 d5 : Int) (n : Bool) (e0 e1 e2 e3 e4 e5 : Int) : acall tab fs_zero specs_bof fns 100 20 48 [.agg [.bool m, .int .i64 d0, .int .i64 d1, .int .i64 d2, .int .i64 d3, .int .i64 d4, .int .i64 d5], .agg [.bool n, .int .i64 e0, .int .i64 e1, .int .i64 e2, .int .i64 e3, .int .i64 e4, .int .i64 e5]] [] (fun o mm _ _ => resN (.any) mm o = .ret (.int .i64 (cmpI (magB d0 d1 d2 d3 d4 d5) (magB e0 e1 e2 e3 e4 e5)))) =
  (need (inI 5 6) (need (inI 5 6) (ifB (ltB d5 e5) (AOut.ret (AV.int IntKind.i64 (-1)) = AOut.ret (AV.int IntKind.i64 (cmpI (magB d0 d1 d2 d3 d4 d5) (magB e0 e1 e2
    e3 e4 e5)))) (need (inI 5 6) (need (inI 5 6) (ifB (ltB e5 d5) (AOut.ret (AV.int IntKind.i64 1) = AOut.ret (AV.int IntKind.i64 (cmpI (magB d0 d1 d2 d3 d4 d5) (magB
    e0 e1 e2 e3 e4 e5)))) (need (inI 4 6) (need (inI 4 6) (ifB (ltB d4 e4) (AOut.ret (AV.int IntKind.i64 (-1)) = AOut.ret (AV.int IntKind.i64 (cmpI (magB d0 d1 d2 d3
    d4 d5) (magB e0 e1 e2 e3 e4 e5)))) (need (inI 4 6) (need (inI 4 6) (ifB (ltB e4 d4) (AOut.ret (AV.int IntKind.i64 1) = AOut.ret (AV.int IntKind.i64 (cmpI (magB d0
    d1 d2 d3 d4 d5) (magB e0 e1 e2 e3 e4 e5)))) (need (inI 3 6) (need (inI 3 6) (ifB (ltB d3 e3) (AOut.ret (AV.int IntKind.i64 (-1)) = AOut.ret (AV.int IntKind.i64 (cmpI
    (magB d0 d1 d2 d3 d4 d5) (magB e0 e1 e2 e3 e4 e5)))) (need (inI 3 6) (need (inI 3 6) (ifB (ltB e3 d3) (AOut.ret (AV.int IntKind.i64 1) = AOut.ret (AV.int IntKind.i64
    (cmpI (magB d0 d1 d2 d3 d4 d5) (magB e0 e1 e2 e3 e4 e5)))) (need (inI 2 6) (need (inI 2 6) (ifB (ltB d2 e2) (AOut.ret (AV.int IntKind.i64 (-1)) = AOut.ret (AV.int
    IntKind.i64 (cmpI (magB d0 d1 d2 d3 d4 d5) (magB e0 e1 e2 e3 e4 e5)))) (need (inI 2 6) (need (inI 2 6) (ifB (ltB e2 d2) (AOut.ret (AV.int IntKind.i64 1) = AOut.ret
    (AV.int IntKind.i64 (cmpI (magB d0 d1 d2 d3 d4 d5) (magB e0 e1 e2 e3 e4 e5)))) (need (inI 1 6) (need (inI 1 6) (ifB (ltB d1 e1) (AOut.ret (AV.int IntKind.i64 (-1))
    = AOut.ret (AV.int IntKind.i64 (cmpI (magB d0 d1 d2 d3 d4 d5) (magB e0 e1 e2 e3 e4 e5)))) (need (inI 1 6) (need (inI 1 6) (ifB (ltB e1 d1) (AOut.ret (AV.int IntKind.i64
    1) = AOut.ret (AV.int IntKind.i64 (cmpI (magB d0 d1 d2 d3 d4 d5) (magB e0 e1 e2 e3 e4 e5)))) (need (inI 0 6) (need (inI 0 6) (ifB (ltB d0 e0) (AOut.ret (AV.int IntKind.i64
    (-1)) = AOut.ret (AV.int IntKind.i64 (cmpI (magB d0 d1 d2 d3 d4 d5) (magB e0 e1 e2 e3 e4 e5)))) (need (inI 0 6) (need (inI 0 6) (ifB (ltB e0 d0) (AOut.ret (AV.int
    IntKind.i64 1) = AOut.ret (AV.int IntKind.i64 (cmpI (magB d0 d1 d2 d3 d4 d5) (magB e0 e1 e2 e3 e4 e5)))) (AOut.ret (AV.int IntKind.i64 0) = AOut.ret (AV.int IntKind.i64
    (cmpI (magB d0 d1 d2 d3 d4 d5) (magB e0 e1 e2 e3 e4 e5)))))))))))))))))))))))))))))))))))))))) := by kernel_rfl
theorem bsize_ok : SpecOK Try.prog 48 (fspecS (pureN [] bsizeS)) := pureN_ok (mkCall fsOK_zero specsOK_bof fnsOK) (.any) (fun vs w => Try.call48 vs w) fun args ps v h hp hw => by
  unfold bsizeS at h
  split at h
  · cases h
    rename_i m d0 d1 d2 d3 d4 d5 n e0 e1 e2 e3 e4 e5
    rw [bsize_eq]
    refine ⟨?_⟩
    simp only [allP_cons, allP_nil, and_true] at hp
    simp only [wfAL, wfA, wfS, wfM, wfB, and_true, true_and, wfT_int, wfT_str, wfT_bool, wfT_prod] at hw
    unfold dgtB at hp
    simp only [simpsL, implies_true, forall_const, if_true, if_false, reduceCtorEq]
    repeat' (first
      | (unfold cmpI magB; (repeat' split) <;> omega)
      | omega
      | decide
      | refine ⟨?_, ?_⟩
      | intro _)
  · cases h
noncomputable def FF_bsize : FSpec := pureN [] bsizeS
theorem FFok_bsize : SpecOK Try.prog 48 (fspecS FF_bsize) := bsize_ok
noncomputable def fs_bsize : FS := (48, FF_bsize) :: fs_zero
theorem fsOK_bsize : FSOK Try.prog fs_bsize := fsOK_cons FFok_bsize fsOK_zero
noncomputable def bplusS : List AV → List Blk → AK → Prop := fun args m K => match args, m with | [.agg [.bool m, .int .i64 d0, .int .i64 d1, .int .i64 d2, .int .i64 d3, .int .i64 d4, .int .i64 d5], .agg [.bool n, .int .i64 e0, .int .i64 e1, .int .i64 e2, .int .i64 e3, .int .i64 e4, .int .i64 e5]], [] => need (dgtB d0 d1 d2 d3 d4 d5) (need (dgtB e0 e1 e2 e3 e4 e5) (need (fitsB (magB d0 d1 d2 d3 d4 d5) (magB e0 e1 e2 e3 e4 e5)) (∀ f0 f1 f2 f3 f4 f5 : Int, dgtB f0 f1 f2 f3 f4 f5 → magB f0 f1 f2 f3 f4 f5 = magB d0 d1 d2 d3 d4 d5 + magB e0 e1 e2 e3 e4 e5 → K (.ret (.agg [.bool m, .int .i64 f0, .int .i64 f1, .int .i64 f2, .int .i64 f3, .int .i64 f4, .int .i64 f5])) [] [] []))) | _, _ => False
theorem bplus_eq (K : AK) (m : Bool) (d0 d1 d2 d3 d4 d5 : Int) (n : Bool) (e0 e1 e2 e3 e4 e5 : Int) : acall tab fs_bsize specs_bof fns 100 20 47 [.agg [.bool m, .int .i64 d0, .int .i64 d1, .int .i64 d2, .int .i64 d3, .int .i64 d4, .int .i64 d5], .agg [.bool n, .int .i64 e0, .int .i64 e1, .int .i64 e2, .int .i64 e3, .int .i64 e4, .int .i64 e5]] [] K =
  (need (inI 0 6) (need (inI 0 6) (need (nzI 4294967296) (need (nzI 4294967296) (need (inI 0 6) (need (inI 1 6) (need (inI 1 6) (need (nzI 4294967296) (need (nzI 4294967296)
    (need (inI 1 6) (need (inI 2 6) (need (inI 2 6) (need (nzI 4294967296) (need (nzI 4294967296) (need (inI 2 6) (need (inI 3 6) (need (inI 3 6) (need (nzI 4294967296)
    (need (nzI 4294967296) (need (inI 3 6) (need (inI 4 6) (need (inI 4 6) (need (nzI 4294967296) (need (nzI 4294967296) (need (inI 4 6) (need (inI 5 6) (need (inI 5
    6) (need (nzI 4294967296) (need (nzI 4294967296) (need (inI 5 6) (K (AOut.ret (AV.agg (AV.bool m :: AV.int IntKind.i64 (remI (addW IntKind.i64 (addW IntKind.i64
    d0 e0) 0) 4294967296) :: AV.int IntKind.i64 (remI (addW IntKind.i64 (addW IntKind.i64 d1 e1) (quoW IntKind.i64 (addW IntKind.i64 (addW IntKind.i64 d0 e0) 0) 4294967296))
    4294967296) :: AV.int IntKind.i64 (remI (addW IntKind.i64 (addW IntKind.i64 d2 e2) (quoW IntKind.i64 (addW IntKind.i64 (addW IntKind.i64 d1 e1) (quoW IntKind.i64
    (addW IntKind.i64 (addW IntKind.i64 d0 e0) 0) 4294967296)) 4294967296)) 4294967296) :: AV.int IntKind.i64 (remI (addW IntKind.i64 (addW IntKind.i64 d3 e3) (quoW
    IntKind.i64 (addW IntKind.i64 (addW IntKind.i64 d2 e2) (quoW IntKind.i64 (addW IntKind.i64 (addW IntKind.i64 d1 e1) (quoW IntKind.i64 (addW IntKind.i64 (addW IntKind.i64
    d0 e0) 0) 4294967296)) 4294967296)) 4294967296)) 4294967296) :: AV.int IntKind.i64 (remI (addW IntKind.i64 (addW IntKind.i64 d4 e4) (quoW IntKind.i64 (addW IntKind.i64
    (addW IntKind.i64 d3 e3) (quoW IntKind.i64 (addW IntKind.i64 (addW IntKind.i64 d2 e2) (quoW IntKind.i64 (addW IntKind.i64 (addW IntKind.i64 d1 e1) (quoW IntKind.i64
    (addW IntKind.i64 (addW IntKind.i64 d0 e0) 0) 4294967296)) 4294967296)) 4294967296)) 4294967296)) 4294967296) :: AV.int IntKind.i64 (remI (addW IntKind.i64 (addW
    IntKind.i64 d5 e5) (quoW IntKind.i64 (addW IntKind.i64 (addW IntKind.i64 d4 e4) (quoW IntKind.i64 (addW IntKind.i64 (addW IntKind.i64 d3 e3) (quoW IntKind.i64 (addW
    IntKind.i64 (addW IntKind.i64 d2 e2) (quoW IntKind.i64 (addW IntKind.i64 (addW IntKind.i64 d1 e1) (quoW IntKind.i64 (addW IntKind.i64 (addW IntKind.i64 d0 e0) 0)
    4294967296)) 4294967296)) 4294967296)) 4294967296)) 4294967296)) 4294967296) :: []))) ([]) [] []))))))))))))))))))))))))))))))) := by kernel_rfl
theorem bplus_ok : SpecOK Try.prog 47 bplusS := specOK_of (mkCall fsOK_bsize specsOK_bof fnsOK) (fun vs w => Try.call47 vs w) fun args m K h hw hwm => by
  unfold bplusS at h
  split at h
  · rename_i m d0 d1 d2 d3 d4 d5 n e0 e1 e2 e3 e4 e5
    rw [bplus_eq]
    refine ⟨?_⟩
    simp only [wfAL, wfA, wfS, wfM, wfB, and_true, true_and, wfT_int, wfT_str, wfT_bool, wfT_prod] at hw hwm
    obtain ⟨h1, h2, h3, h⟩ := h
    unfold dgtB at h1 h2
    unfold fitsB magB at h3
    obtain ⟨r0, k0, a0, b0, c0, g0⟩ := step_add h1.1 h2.1 (c := 0) (by omega)
    obtain ⟨r1, k1, a1, b1, c1, g1⟩ := step_add h1.2.1 h2.2.1 (c := k0) (by omega)
    obtain ⟨r2, k2, a2, b2, c2, g2⟩ := step_add h1.2.2.1 h2.2.2.1 (c := k1) (by omega)
    obtain ⟨r3, k3, a3, b3, c3, g3⟩ := step_add h1.2.2.2.1 h2.2.2.2.1 (c := k2) (by omega)
    obtain ⟨r4, k4, a4, b4, c4, g4⟩ := step_add h1.2.2.2.2.1 h2.2.2.2.2.1 (c := k3) (by omega)
    obtain ⟨r5, k5, a5, b5, c5, g5⟩ := step_add h1.2.2.2.2.2 h2.2.2.2.2.2 (c := k4) (by omega)
    simp only [a0, b0, a1, b1, a2, b2, a3, b3, a4, b4, a5, b5]
    have := h r0 r1 r2 r3 r4 r5 (by unfold dgtB; omega) (by unfold magB; omega)
    simp only [simpsL, implies_true, forall_const, if_true, if_false, reduceCtorEq, this]
    try omega
  · exact h.elim
noncomputable def SP_bplus : List AV → List Blk → AK → Prop := (frameS bplusS)
theorem SPok_bplus : SpecOK Try.prog 47 SP_bplus := (frame_ok bplus_ok)
noncomputable def specs_bplus : Specs := (47, SP_bplus) :: specs_bof
theorem specsOK_bplus : SpecsOK Try.prog specs_bplus := specsOK_cons SPok_bplus specsOK_bof
noncomputable def blessS : List AV → List Blk → AK → Prop := fun args m K => match args, m with | [.agg [.bool m, .int .i64 d0, .int .i64 d1, .int .i64 d2, .int .i64 d3, .int .i64 d4, .int .i64 d5], .agg [.bool n, .int .i64 e0, .int .i64 e1, .int .i64 e2, .int .i64 e3, .int .i64 e4, .int .i64 e5]], [] => need (dgtB d0 d1 d2 d3 d4 d5) (need (dgtB e0 e1 e2 e3 e4 e5) (need (magB e0 e1 e2 e3 e4 e5 ≤ magB d0 d1 d2 d3 d4 d5) (∀ f0 f1 f2 f3 f4 f5 : Int, dgtB f0 f1 f2 f3 f4 f5 → magB f0 f1 f2 f3 f4 f5 = magB d0 d1 d2 d3 d4 d5 - magB e0 e1 e2 e3 e4 e5 → K (.ret (.agg [.bool m, .int .i64 f0, .int .i64 f1, .int .i64 f2, .int .i64 f3, .int .i64 f4, .int .i64 f5])) [] [] []))) | _, _ => False
theorem bless_eq (K : AK) (m : Bool) (d0 d1 d2 d3 d4 d5 : Int) (n : Bool) (e0 e1 e2 e3 e4 e5 : Int) : acall tab fs_bsize specs_bplus fns 100 20 49 [.agg [.bool m, .int .i64 d0, .int .i64 d1, .int .i64 d2, .int .i64 d3, .int .i64 d4, .int .i64 d5], .agg [.bool n, .int .i64 e0, .int .i64 e1, .int .i64 e2, .int .i64 e3, .int .i64 e4, .int .i64 e5]] [] K =
  (need (inI 0 6) (need (inI 0 6) (need (inI 0 6) (need (inI 1 6) (need (inI 1 6) (need (inI 1 6) (need (inI 2 6) (need (inI 2 6) (need (inI 2 6) (need (inI 3 6) (need
    (inI 3 6) (need (inI 3 6) (need (inI 4 6) (need (inI 4 6) (need (inI 4 6) (need (inI 5 6) (need (inI 5 6) (need (inI 5 6) (K (AOut.ret (AV.agg (AV.bool m :: AV.int
    IntKind.i64 (selI (ltB (subW IntKind.i64 (subW IntKind.i64 d0 e0) 0) 0) (addW IntKind.i64 (subW IntKind.i64 (subW IntKind.i64 d0 e0) 0) 4294967296) (subW IntKind.i64
    (subW IntKind.i64 d0 e0) 0)) :: AV.int IntKind.i64 (selI (ltB (subW IntKind.i64 (subW IntKind.i64 d1 e1) (selI (ltB (subW IntKind.i64 (subW IntKind.i64 d0 e0) 0)
    0) 1 0)) 0) (addW IntKind.i64 (subW IntKind.i64 (subW IntKind.i64 d1 e1) (selI (ltB (subW IntKind.i64 (subW IntKind.i64 d0 e0) 0) 0) 1 0)) 4294967296) (subW IntKind.i64
    (subW IntKind.i64 d1 e1) (selI (ltB (subW IntKind.i64 (subW IntKind.i64 d0 e0) 0) 0) 1 0))) :: AV.int IntKind.i64 (selI (ltB (subW IntKind.i64 (subW IntKind.i64
    d2 e2) (selI (ltB (subW IntKind.i64 (subW IntKind.i64 d1 e1) (selI (ltB (subW IntKind.i64 (subW IntKind.i64 d0 e0) 0) 0) 1 0)) 0) 1 0)) 0) (addW IntKind.i64 (subW
    IntKind.i64 (subW IntKind.i64 d2 e2) (selI (ltB (subW IntKind.i64 (subW IntKind.i64 d1 e1) (selI (ltB (subW IntKind.i64 (subW IntKind.i64 d0 e0) 0) 0) 1 0)) 0) 1
    0)) 4294967296) (subW IntKind.i64 (subW IntKind.i64 d2 e2) (selI (ltB (subW IntKind.i64 (subW IntKind.i64 d1 e1) (selI (ltB (subW IntKind.i64 (subW IntKind.i64 d0
    e0) 0) 0) 1 0)) 0) 1 0))) :: AV.int IntKind.i64 (selI (ltB (subW IntKind.i64 (subW IntKind.i64 d3 e3) (selI (ltB (subW IntKind.i64 (subW IntKind.i64 d2 e2) (selI
    (ltB (subW IntKind.i64 (subW IntKind.i64 d1 e1) (selI (ltB (subW IntKind.i64 (subW IntKind.i64 d0 e0) 0) 0) 1 0)) 0) 1 0)) 0) 1 0)) 0) (addW IntKind.i64 (subW IntKind.i64
    (subW IntKind.i64 d3 e3) (selI (ltB (subW IntKind.i64 (subW IntKind.i64 d2 e2) (selI (ltB (subW IntKind.i64 (subW IntKind.i64 d1 e1) (selI (ltB (subW IntKind.i64
    (subW IntKind.i64 d0 e0) 0) 0) 1 0)) 0) 1 0)) 0) 1 0)) 4294967296) (subW IntKind.i64 (subW IntKind.i64 d3 e3) (selI (ltB (subW IntKind.i64 (subW IntKind.i64 d2 e2)
    (selI (ltB (subW IntKind.i64 (subW IntKind.i64 d1 e1) (selI (ltB (subW IntKind.i64 (subW IntKind.i64 d0 e0) 0) 0) 1 0)) 0) 1 0)) 0) 1 0))) :: AV.int IntKind.i64
    (selI (ltB (subW IntKind.i64 (subW IntKind.i64 d4 e4) (selI (ltB (subW IntKind.i64 (subW IntKind.i64 d3 e3) (selI (ltB (subW IntKind.i64 (subW IntKind.i64 d2 e2)
    (selI (ltB (subW IntKind.i64 (subW IntKind.i64 d1 e1) (selI (ltB (subW IntKind.i64 (subW IntKind.i64 d0 e0) 0) 0) 1 0)) 0) 1 0)) 0) 1 0)) 0) 1 0)) 0) (addW IntKind.i64
    (subW IntKind.i64 (subW IntKind.i64 d4 e4) (selI (ltB (subW IntKind.i64 (subW IntKind.i64 d3 e3) (selI (ltB (subW IntKind.i64 (subW IntKind.i64 d2 e2) (selI (ltB
    (subW IntKind.i64 (subW IntKind.i64 d1 e1) (selI (ltB (subW IntKind.i64 (subW IntKind.i64 d0 e0) 0) 0) 1 0)) 0) 1 0)) 0) 1 0)) 0) 1 0)) 4294967296) (subW IntKind.i64
    (subW IntKind.i64 d4 e4) (selI (ltB (subW IntKind.i64 (subW IntKind.i64 d3 e3) (selI (ltB (subW IntKind.i64 (subW IntKind.i64 d2 e2) (selI (ltB (subW IntKind.i64
    (subW IntKind.i64 d1 e1) (selI (ltB (subW IntKind.i64 (subW IntKind.i64 d0 e0) 0) 0) 1 0)) 0) 1 0)) 0) 1 0)) 0) 1 0))) :: AV.int IntKind.i64 (selI (ltB (subW IntKind.i64
    (subW IntKind.i64 d5 e5) (selI (ltB (subW IntKind.i64 (subW IntKind.i64 d4 e4) (selI (ltB (subW IntKind.i64 (subW IntKind.i64 d3 e3) (selI (ltB (subW IntKind.i64
    (subW IntKind.i64 d2 e2) (selI (ltB (subW IntKind.i64 (subW IntKind.i64 d1 e1) (selI (ltB (subW IntKind.i64 (subW IntKind.i64 d0 e0) 0) 0) 1 0)) 0) 1 0)) 0) 1 0))
    0) 1 0)) 0) 1 0)) 0) (addW IntKind.i64 (subW IntKind.i64 (subW IntKind.i64 d5 e5) (selI (ltB (subW IntKind.i64 (subW IntKind.i64 d4 e4) (selI (ltB (subW IntKind.i64
    (subW IntKind.i64 d3 e3) (selI (ltB (subW IntKind.i64 (subW IntKind.i64 d2 e2) (selI (ltB (subW IntKind.i64 (subW IntKind.i64 d1 e1) (selI (ltB (subW IntKind.i64
    (subW IntKind.i64 d0 e0) 0) 0) 1 0)) 0) 1 0)) 0) 1 0)) 0) 1 0)) 0) 1 0)) 4294967296) (subW IntKind.i64 (subW IntKind.i64 d5 e5) (selI (ltB (subW IntKind.i64 (subW
    IntKind.i64 d4 e4) (selI (ltB (subW IntKind.i64 (subW IntKind.i64 d3 e3) (selI (ltB (subW IntKind.i64 (subW IntKind.i64 d2 e2) (selI (ltB (subW IntKind.i64 (subW
    IntKind.i64 d1 e1) (selI (ltB (subW IntKind.i64 (subW IntKind.i64 d0 e0) 0) 0) 1 0)) 0) 1 0)) 0) 1 0)) 0) 1 0)) 0) 1 0))) :: []))) ([]) [] []))))))))))))))))))) := by kernel_rfl
theorem bless_ok : SpecOK Try.prog 49 blessS := specOK_of (mkCall fsOK_bsize specsOK_bplus fnsOK) (fun vs w => Try.call49 vs w) fun args m K h hw hwm => by
  unfold blessS at h
  split at h
  · rename_i m d0 d1 d2 d3 d4 d5 n e0 e1 e2 e3 e4 e5
    rw [bless_eq]
    refine ⟨?_⟩
    simp only [wfAL, wfA, wfS, wfM, wfB, and_true, true_and, wfT_int, wfT_str, wfT_bool, wfT_prod] at hw hwm
    obtain ⟨h1, h2, h3, h⟩ := h
    unfold dgtB at h1 h2
    unfold magB at h3
    obtain ⟨r0, k0, a0, b0, c0, g0⟩ := step_sub h1.1 h2.1 (c := 0) (by omega)
    obtain ⟨r1, k1, a1, b1, c1, g1⟩ := step_sub h1.2.1 h2.2.1 (c := k0) (by omega)
    obtain ⟨r2, k2, a2, b2, c2, g2⟩ := step_sub h1.2.2.1 h2.2.2.1 (c := k1) (by omega)
    obtain ⟨r3, k3, a3, b3, c3, g3⟩ := step_sub h1.2.2.2.1 h2.2.2.2.1 (c := k2) (by omega)
    obtain ⟨r4, k4, a4, b4, c4, g4⟩ := step_sub h1.2.2.2.2.1 h2.2.2.2.2.1 (c := k3) (by omega)
    obtain ⟨r5, k5, a5, b5, c5, g5⟩ := step_sub h1.2.2.2.2.2 h2.2.2.2.2.2 (c := k4) (by omega)
    simp only [a0, b0, a1, b1, a2, b2, a3, b3, a4, b4, a5, b5]
    have := h r0 r1 r2 r3 r4 r5 (by unfold dgtB; omega) (by unfold magB; omega)
    simp only [simpsL, implies_true, forall_const, if_true, if_false, reduceCtorEq, this]
    try omega
  · exact h.elim
noncomputable def SP_bless : List AV → List Blk → AK → Prop := (frameS blessS)
theorem SPok_bless : SpecOK Try.prog 49 SP_bless := (frame_ok bless_ok)
noncomputable def specs_bless : Specs := (49, SP_bless) :: specs_bplus
theorem specsOK_bless : SpecsOK Try.prog specs_bless := specsOK_cons SPok_bless specsOK_bplus
noncomputable def bnegS : List AV → List Blk → AK → Prop := fun args m K => match args, m with | [.agg [.bool m, .int .i64 d0, .int .i64 d1, .int .i64 d2, .int .i64 d3, .int .i64 d4, .int .i64 d5]], [] => need (okB m d0 d1 d2 d3 d4 d5) (∀ n : Bool, okB n d0 d1 d2 d3 d4 d5 → bigV n d0 d1 d2 d3 d4 d5 = -bigV m d0 d1 d2 d3 d4 d5 → K (.ret (.agg [.bool n, .int .i64 d0, .int .i64 d1, .int .i64 d2, .int .i64 d3, .int .i64 d4, .int .i64 d5])) [] [] []) | _, _ => False
theorem bneg_eq (K : AK) (m : Bool) (d0 d1 d2 d3 d4 d5 : Int) : acall tab fs_bsize specs_bless fns 100 20 71 [.agg [.bool m, .int .i64 d0, .int .i64 d1, .int .i64 d2, .int .i64 d3, .int .i64 d4, .int .i64 d5]] [] K =
  (need (dgtB d0 d1 d2 d3 d4 d5) (ifB (notB (zeroB d0 d1 d2 d3 d4 d5)) (K (AOut.ret (AV.agg (AV.bool (notB m) :: AV.int IntKind.i64 d0 :: AV.int IntKind.i64 d1 :: AV.int
    IntKind.i64 d2 :: AV.int IntKind.i64 d3 :: AV.int IntKind.i64 d4 :: AV.int IntKind.i64 d5 :: []))) ([]) [] []) (K (AOut.ret (AV.agg (AV.bool m :: AV.int IntKind.i64
    d0 :: AV.int IntKind.i64 d1 :: AV.int IntKind.i64 d2 :: AV.int IntKind.i64 d3 :: AV.int IntKind.i64 d4 :: AV.int IntKind.i64 d5 :: []))) ([]) [] []))) := by kernel_rfl
theorem bneg_ok : SpecOK Try.prog 71 bnegS := specOK_of (mkCall fsOK_bsize specsOK_bless fnsOK) (fun vs w => Try.call71 vs w) fun args m K h hw hwm => by
  unfold bnegS at h
  split at h
  · rename_i m d0 d1 d2 d3 d4 d5
    rw [bneg_eq]
    refine ⟨?_⟩
    simp only [wfAL, wfA, wfS, wfM, wfB, and_true, true_and, wfT_int, wfT_str, wfT_bool, wfT_prod] at hw hwm
    obtain ⟨h1, h⟩ := h
    refine ⟨h1.1, ?_⟩
    rw [ifB_def]
    refine ⟨fun hz => h _ ⟨h1.1, fun _ => ?_⟩ ?_, fun hz => h _ h1 ?_⟩
    · unfold zeroB at hz; simpa [notB] using hz
    · unfold bigV notB; cases m <;> simp
    · unfold zeroB at hz
      have hz : magB d0 d1 d2 d3 d4 d5 = 0 := by simpa [notB] using hz
      unfold bigV; split <;> omega
  · exact h.elim
noncomputable def SP_bneg : List AV → List Blk → AK → Prop := (frameS bnegS)
theorem SPok_bneg : SpecOK Try.prog 71 SP_bneg := (frame_ok bneg_ok)
noncomputable def specs_bneg : Specs := (71, SP_bneg) :: specs_bless
theorem specsOK_bneg : SpecsOK Try.prog specs_bneg := specsOK_cons SPok_bneg specsOK_bless
noncomputable def baddS : List AV → List Blk → AK → Prop := fun args m K => match args, m with | [.agg [.bool m, .int .i64 d0, .int .i64 d1, .int .i64 d2, .int .i64 d3, .int .i64 d4, .int .i64 d5], .agg [.bool n, .int .i64 e0, .int .i64 e1, .int .i64 e2, .int .i64 e3, .int .i64 e4, .int .i64 e5]], [] => need (okB m d0 d1 d2 d3 d4 d5) (need (okB n e0 e1 e2 e3 e4 e5) (need (fitsB (magB d0 d1 d2 d3 d4 d5) (magB e0 e1 e2 e3 e4 e5)) (∀ (l : Bool) (f0 f1 f2 f3 f4 f5 : Int), okB l f0 f1 f2 f3 f4 f5 → bigV l f0 f1 f2 f3 f4 f5 = bigV m d0 d1 d2 d3 d4 d5 + bigV n e0 e1 e2 e3 e4 e5 → K (.ret (.agg [.bool l, .int .i64 f0, .int .i64 f1, .int .i64 f2, .int .i64 f3, .int .i64 f4, .int .i64 f5])) [] [] []))) | _, _ => False
theorem badd_eq (K : AK) (m : Bool) (d0 d1 d2 d3 d4 d5 : Int) (n : Bool) (e0 e1 e2 e3 e4 e5 : Int) : acall tab fs_bsize specs_bneg fns 100 20 27 [.agg [.bool m, .int .i64 d0, .int .i64 d1, .int .i64 d2, .int .i64 d3, .int .i64 d4, .int .i64 d5], .agg [.bool n, .int .i64 e0, .int .i64 e1, .int .i64 e2, .int .i64 e3, .int .i64 e4, .int .i64 e5]] [] K =
  (ifB (beqB m n) (need (dgtB d0 d1 d2 d3 d4 d5) (need (dgtB e0 e1 e2 e3 e4 e5) (need (fitsB (magB d0 d1 d2 d3 d4 d5) (magB e0 e1 e2 e3 e4 e5)) (∀ (f0 f1 f2 f3 f4 f5
    : Int), dgtB f0 f1 f2 f3 f4 f5 → magB f0 f1 f2 f3 f4 f5 = magB d0 d1 d2 d3 d4 d5 + magB e0 e1 e2 e3 e4 e5 → K (AOut.ret (AV.agg (AV.bool m :: AV.int IntKind.i64
    f0 :: AV.int IntKind.i64 f1 :: AV.int IntKind.i64 f2 :: AV.int IntKind.i64 f3 :: AV.int IntKind.i64 f4 :: AV.int IntKind.i64 f5 :: []))) ([]) [] [])))) (need (dgtB
    d0 d1 d2 d3 d4 d5) (need (dgtB e0 e1 e2 e3 e4 e5) (ifB (ltB (cmpI (magB d0 d1 d2 d3 d4 d5) (magB e0 e1 e2 e3 e4 e5)) 0) (need (dgtB e0 e1 e2 e3 e4 e5) (need (dgtB
    d0 d1 d2 d3 d4 d5) (need (magB d0 d1 d2 d3 d4 d5 ≤ magB e0 e1 e2 e3 e4 e5) (∀ (f0 f1 f2 f3 f4 f5 : Int), dgtB f0 f1 f2 f3 f4 f5 → magB f0 f1 f2 f3 f4 f5 = magB e0
    e1 e2 e3 e4 e5 - magB d0 d1 d2 d3 d4 d5 → need (dgtB f0 f1 f2 f3 f4 f5) (ifB (zeroB f0 f1 f2 f3 f4 f5) (K (AOut.ret (AV.agg (AV.bool false :: AV.int IntKind.i64
    f0 :: AV.int IntKind.i64 f1 :: AV.int IntKind.i64 f2 :: AV.int IntKind.i64 f3 :: AV.int IntKind.i64 f4 :: AV.int IntKind.i64 f5 :: []))) ([]) [] []) (K (AOut.ret
    (AV.agg (AV.bool n :: AV.int IntKind.i64 f0 :: AV.int IntKind.i64 f1 :: AV.int IntKind.i64 f2 :: AV.int IntKind.i64 f3 :: AV.int IntKind.i64 f4 :: AV.int IntKind.i64
    f5 :: []))) ([]) [] [])))))) (need (dgtB d0 d1 d2 d3 d4 d5) (need (dgtB e0 e1 e2 e3 e4 e5) (need (magB e0 e1 e2 e3 e4 e5 ≤ magB d0 d1 d2 d3 d4 d5) (∀ (f0 f1 f2 f3
    f4 f5 : Int), dgtB f0 f1 f2 f3 f4 f5 → magB f0 f1 f2 f3 f4 f5 = magB d0 d1 d2 d3 d4 d5 - magB e0 e1 e2 e3 e4 e5 → need (dgtB f0 f1 f2 f3 f4 f5) (ifB (zeroB f0 f1
    f2 f3 f4 f5) (K (AOut.ret (AV.agg (AV.bool false :: AV.int IntKind.i64 f0 :: AV.int IntKind.i64 f1 :: AV.int IntKind.i64 f2 :: AV.int IntKind.i64 f3 :: AV.int IntKind.i64
    f4 :: AV.int IntKind.i64 f5 :: []))) ([]) [] []) (K (AOut.ret (AV.agg (AV.bool m :: AV.int IntKind.i64 f0 :: AV.int IntKind.i64 f1 :: AV.int IntKind.i64 f2 :: AV.int
    IntKind.i64 f3 :: AV.int IntKind.i64 f4 :: AV.int IntKind.i64 f5 :: []))) ([]) [] [])))))))))) := by kernel_rfl
theorem badd_ok : SpecOK Try.prog 27 baddS := specOK_of (mkCall fsOK_bsize specsOK_bneg fnsOK) (fun vs w => Try.call27 vs w) fun args m K h hw hwm => by
  unfold baddS at h
  split at h
  · rename_i m d0 d1 d2 d3 d4 d5 n e0 e1 e2 e3 e4 e5
    rw [badd_eq]
    refine ⟨?_⟩
    simp only [wfAL, wfA, wfS, wfM, wfB, and_true, true_and, wfT_int, wfT_str, wfT_bool, wfT_prod] at hw hwm
    obtain ⟨h1, h2, h3, h⟩ := h
    have g1 := h1.1
    have g2 := h2.1
    have hz : ∀ {f0 f1 f2 f3 f4 f5 : Int}, zeroB f0 f1 f2 f3 f4 f5 = true ↔ magB f0 f1 f2 f3 f4 f5 = 0 := by intros; unfold zeroB; exact decide_eq_true_iff
    have hz' : ∀ {f0 f1 f2 f3 f4 f5 : Int}, zeroB f0 f1 f2 f3 f4 f5 = false ↔ magB f0 f1 f2 f3 f4 f5 ≠ 0 := by intros; unfold zeroB; exact decide_eq_false_iff_not
    have nn : ∀ {f0 f1 f2 f3 f4 f5 : Int}, dgtB f0 f1 f2 f3 f4 f5 → 0 ≤ magB f0 f1 f2 f3 f4 f5 := by intro _ _ _ _ _ _ hd; unfold dgtB at hd; unfold magB; omega
    have n1 := nn g1
    have n2 := nn g2
    simp only [need_def, ifB_def, g1, g2, h3, true_and, beqB_def, beq_iff_eq, beq_eq_false_iff_ne, ltB_def, decide_eq_true_eq, decide_eq_false_iff_not]
    refine ⟨fun hs f0 f1 f2 f3 f4 f5 hd hm => h _ _ _ _ _ _ _ ⟨hd, fun hm' => ?_⟩ ?_, fun hs => ⟨fun hc => ⟨?_, fun f0 f1 f2 f3 f4 f5 hd hm => ⟨hd, fun h0 => h _ _ _ _ _ _ _ ⟨hd, fun h => by cases h⟩ ?_, fun h0 => h _ _ _ _ _ _ _ ⟨hd, fun _ => hz'.1 h0⟩ ?_⟩⟩, fun hc => ⟨?_, fun f0 f1 f2 f3 f4 f5 hd hm => ⟨hd, fun h0 => h _ _ _ _ _ _ _ ⟨hd, fun h => by cases h⟩ ?_, fun h0 => h _ _ _ _ _ _ _ ⟨hd, fun _ => hz'.1 h0⟩ ?_⟩⟩⟩⟩
    · have := h1.2 hm'; omega
    · subst hs; unfold bigV; split <;> omega
    · unfold cmpI at hc; split at hc <;> (try split at hc) <;> omega
    · have := hz.1 h0; unfold bigV; cases m <;> cases n <;> simp at hs ⊢ <;> omega
    · unfold bigV; cases m <;> cases n <;> simp at hs ⊢ <;> omega
    · unfold cmpI at hc; split at hc <;> (try split at hc) <;> omega
    · have := hz.1 h0; unfold bigV; cases m <;> cases n <;> simp at hs ⊢ <;> omega
    · unfold bigV; cases m <;> cases n <;> simp at hs ⊢ <;> omega
  · exact h.elim
noncomputable def SP_badd : List AV → List Blk → AK → Prop := (frameS baddS)
theorem SPok_badd : SpecOK Try.prog 27 SP_badd := (frame_ok badd_ok)
noncomputable def specs_badd : Specs := (27, SP_badd) :: specs_bneg
theorem specsOK_badd : SpecsOK Try.prog specs_badd := specsOK_cons SPok_badd specsOK_bneg
noncomputable def bcmpS : List AV → OV := fun args => match args with | [.agg [.bool m, .int .i64 d0, .int .i64 d1, .int .i64 d2, .int .i64 d3, .int .i64 d4, .int .i64 d5], .agg [.bool n, .int .i64 e0, .int .i64 e1, .int .i64 e2, .int .i64 e3, .int .i64 e4, .int .i64 e5]] => some ([okB m d0 d1 d2 d3 d4 d5, okB n e0 e1 e2 e3 e4 e5, fitsB (magB d0 d1 d2 d3 d4 d5) (magB e0 e1 e2 e3 e4 e5)], .int .i64 (cmpI (bigV m d0 d1 d2 d3 d4 d5) (bigV n e0 e1 e2 e3 e4 e5))) | _ => none
theorem bcmp_eq (m : Bool) (d0 d1 d2 d3 d4 d5 : Int) (n : Bool) (e0 e1 e2 e3 e4 e5 : Int) : acall tab fs_bsize specs_badd fns 100 20 53 [.agg [.bool m, .int .i64 d0, .int .i64 d1, .int .i64 d2, .int .i64 d3, .int .i64 d4, .int .i64 d5], .agg [.bool n, .int .i64 e0, .int .i64 e1, .int .i64 e2, .int .i64 e3, .int .i64 e4, .int .i64 e5]] [] (fun o mm _ _ => resN (.any) mm o = .ret (.int .i64 (cmpI (bigV m d0 d1 d2 d3 d4 d5) (bigV n e0 e1 e2 e3 e4 e5)))) =
  (eqLr m (eqIr d0 (eqIr d1 (eqIr d2 (eqIr d3 (eqIr d4 (eqIr d5 (eqLr n (eqIr e0 (eqIr e1 (eqIr e2 (eqIr e3 (eqIr e4 (eqIr e5 (need (need (okB n e0 e1 e2 e3 e4 e5)
    (∀ (n_1 : Bool), okB n_1 e0 e1 e2 e3 e4 e5 → bigV n_1 e0 e1 e2 e3 e4 e5 = -bigV n e0 e1 e2 e3 e4 e5 → eqLr m (eqIr d0 (eqIr d1 (eqIr d2 (eqIr d3 (eqIr d4 (eqIr d5
    (need (need (okB m d0 d1 d2 d3 d4 d5) (need (okB n_1 e0 e1 e2 e3 e4 e5) (need (fitsB (magB d0 d1 d2 d3 d4 d5) (magB e0 e1 e2 e3 e4 e5)) (∀ (l : Bool) (f0 f1 f2 f3
    f4 f5 : Int), okB l f0 f1 f2 f3 f4 f5 → bigV l f0 f1 f2 f3 f4 f5 = bigV m d0 d1 d2 d3 d4 d5 + bigV n_1 e0 e1 e2 e3 e4 e5 → need (dgtB f0 f1 f2 f3 f4 f5) (ifB (zeroB
    f0 f1 f2 f3 f4 f5) (AOut.ret (AV.int IntKind.i64 0) = AOut.ret (AV.int IntKind.i64 (cmpI (bigV m d0 d1 d2 d3 d4 d5) (bigV n e0 e1 e2 e3 e4 e5)))) (ifB l (AOut.ret
    (AV.int IntKind.i64 (-1)) = AOut.ret (AV.int IntKind.i64 (cmpI (bigV m d0 d1 d2 d3 d4 d5) (bigV n e0 e1 e2 e3 e4 e5)))) (AOut.ret (AV.int IntKind.i64 1) = AOut.ret
    (AV.int IntKind.i64 (cmpI (bigV m d0 d1 d2 d3 d4 d5) (bigV n e0 e1 e2 e3 e4 e5)))))))))) (eqLr m (eqIr d0 (eqIr d1 (eqIr d2 (eqIr d3 (eqIr d4 (eqIr d5 (need (okB
    m d0 d1 d2 d3 d4 d5) (need (okB n_1 e0 e1 e2 e3 e4 e5) (need (fitsB (magB d0 d1 d2 d3 d4 d5) (magB e0 e1 e2 e3 e4 e5)) (∀ (l : Bool) (f0 f1 f2 f3 f4 f5 : Int), okB
    l f0 f1 f2 f3 f4 f5 → bigV l f0 f1 f2 f3 f4 f5 = bigV m d0 d1 d2 d3 d4 d5 + bigV n_1 e0 e1 e2 e3 e4 e5 → need (dgtB f0 f1 f2 f3 f4 f5) (ifB (zeroB f0 f1 f2 f3 f4
    f5) (AOut.ret (AV.int IntKind.i64 0) = AOut.ret (AV.int IntKind.i64 (cmpI (bigV m d0 d1 d2 d3 d4 d5) (bigV n e0 e1 e2 e3 e4 e5)))) (ifB l (AOut.ret (AV.int IntKind.i64
    (-1)) = AOut.ret (AV.int IntKind.i64 (cmpI (bigV m d0 d1 d2 d3 d4 d5) (bigV n e0 e1 e2 e3 e4 e5)))) (AOut.ret (AV.int IntKind.i64 1) = AOut.ret (AV.int IntKind.i64
    (cmpI (bigV m d0 d1 d2 d3 d4 d5) (bigV n e0 e1 e2 e3 e4 e5)))))))))))))))))))))))))) (eqLr m (eqIr d0 (eqIr d1 (eqIr d2 (eqIr d3 (eqIr d4 (eqIr d5 (eqLr n (eqIr
    e0 (eqIr e1 (eqIr e2 (eqIr e3 (eqIr e4 (eqIr e5 (need (okB n e0 e1 e2 e3 e4 e5) (∀ (n_1 : Bool), okB n_1 e0 e1 e2 e3 e4 e5 → bigV n_1 e0 e1 e2 e3 e4 e5 = -bigV n
    e0 e1 e2 e3 e4 e5 → eqLr m (eqIr d0 (eqIr d1 (eqIr d2 (eqIr d3 (eqIr d4 (eqIr d5 (need (okB m d0 d1 d2 d3 d4 d5) (need (okB n_1 e0 e1 e2 e3 e4 e5) (need (fitsB (magB
    d0 d1 d2 d3 d4 d5) (magB e0 e1 e2 e3 e4 e5)) (∀ (l : Bool) (f0 f1 f2 f3 f4 f5 : Int), okB l f0 f1 f2 f3 f4 f5 → bigV l f0 f1 f2 f3 f4 f5 = bigV m d0 d1 d2 d3 d4
    d5 + bigV n_1 e0 e1 e2 e3 e4 e5 → need (dgtB f0 f1 f2 f3 f4 f5) (ifB (zeroB f0 f1 f2 f3 f4 f5) (AOut.ret (AV.int IntKind.i64 0) = AOut.ret (AV.int IntKind.i64 (cmpI
    (bigV m d0 d1 d2 d3 d4 d5) (bigV n e0 e1 e2 e3 e4 e5)))) (ifB l (AOut.ret (AV.int IntKind.i64 (-1)) = AOut.ret (AV.int IntKind.i64 (cmpI (bigV m d0 d1 d2 d3 d4 d5)
    (bigV n e0 e1 e2 e3 e4 e5)))) (AOut.ret (AV.int IntKind.i64 1) = AOut.ret (AV.int IntKind.i64 (cmpI (bigV m d0 d1 d2 d3 d4 d5) (bigV n e0 e1 e2 e3 e4 e5))))))))))))))))))))))))))))))))))))))))))))))) := by kernel_rfl
theorem bcmp_ok : SpecOK Try.prog 53 (fspecS (pureN [] bcmpS)) := pureN_ok (mkCall fsOK_bsize specsOK_badd fnsOK) (.any) (fun vs w => Try.call53 vs w) fun args ps v h hp hw => by
  unfold bcmpS at h
  split at h
  · cases h
    rename_i m d0 d1 d2 d3 d4 d5 n e0 e1 e2 e3 e4 e5
    rw [bcmp_eq]
    refine ⟨?_⟩
    simp only [allP_cons, allP_nil, and_true] at hp
    simp only [wfAL, wfA, wfS, wfM, wfB, and_true, true_and, wfT_int, wfT_str, wfT_bool, wfT_prod] at hw
    obtain ⟨h1, h2, h3⟩ := hp
    have fin : ∀ (k : Bool) (q l : Bool) (f0 f1 f2 f3 f4 f5 : Int), bigV k e0 e1 e2 e3 e4 e5 = -bigV n e0 e1 e2 e3 e4 e5 → okB l f0 f1 f2 f3 f4 f5 → bigV l f0 f1 f2 f3 f4 f5 = bigV m d0 d1 d2 d3 d4 d5 + bigV k e0 e1 e2 e3 e4 e5 →
        (zeroB f0 f1 f2 f3 f4 f5 = true → (0 : Int) = cmpI (bigV m d0 d1 d2 d3 d4 d5) (bigV n e0 e1 e2 e3 e4 e5)) ∧ (zeroB f0 f1 f2 f3 f4 f5 = false → (l = true → (-1 : Int) = cmpI (bigV m d0 d1 d2 d3 d4 d5) (bigV n e0 e1 e2 e3 e4 e5)) ∧ (l = false → (1 : Int) = cmpI (bigV m d0 d1 d2 d3 d4 d5) (bigV n e0 e1 e2 e3 e4 e5))) := by
      intro k q l f0 f1 f2 f3 f4 f5 hk hl hs
      have nn : 0 ≤ magB f0 f1 f2 f3 f4 f5 := by have := hl.1; unfold dgtB at this; unfold magB; omega
      generalize bigV m d0 d1 d2 d3 d4 d5 = A at *
      generalize bigV n e0 e1 e2 e3 e4 e5 = B at *
      unfold zeroB bigV at *
      simp only [decide_eq_true_eq, decide_eq_false_iff_not]
      unfold cmpI
      refine ⟨fun hz => ?_, fun hz => ⟨fun h => ?_, fun h => ?_⟩⟩
      · (repeat' split) <;> split at hs <;> omega
      · subst h; simp only [if_true] at hs; (repeat' split) <;> omega
      · subst h; simp only [Bool.false_eq_true, if_false] at hs; (repeat' split) <;> omega
    simp only [eqI_def, eqL_def, need_def, h1, h2, h3, true_and, and_true, ifB_def, ret_int]
    repeat' (first
      | with_reducible rfl
      | assumption
      | exact (by assumption : okB _ _ _ _ _ _ _).1
      | exact fin _ true _ _ _ _ _ _ _ (by assumption) (by assumption) (by assumption)
      | refine ⟨?_, ?_⟩
      | intro _)
  · cases h
noncomputable def FF_bcmp : FSpec := pureN [] bcmpS
theorem FFok_bcmp : SpecOK Try.prog 53 (fspecS FF_bcmp) := bcmp_ok
noncomputable def fs_bcmp : FS := (53, FF_bcmp) :: fs_bsize
theorem fsOK_bcmp : FSOK Try.prog fs_bcmp := fsOK_cons FFok_bcmp fsOK_bsize
def halfR (a b lo hi : Int) : Prop := (0 ≤ lo ∧ lo < 4294967296) ∧ (0 ≤ hi ∧ hi < 4294967295) ∧ lo + 4294967296 * hi = a * b
def dgt1 (a : Int) : Prop := 0 ≤ a ∧ a < 4294967296
noncomputable def halvesS : List AV → List Blk → AK → Prop := fun args m K => match args, m with | [.int .i64 a, .int .i64 b], [] => need (dgt1 a) (need (dgt1 b) (∀ lo hi : Int, halfR a b lo hi → K (.ret (.tup [.int .i64 lo, .int .i64 hi])) [] [] [])) | _, _ => False
theorem halves_eq (K : AK) (a b : Int) : acall tab fs_bcmp specs_badd fns 100 20 51 [.int .i64 a, .int .i64 b] [] K =
  (need (nzI 65536) (need (nzI 65536) (need (nzI 65536) (need (nzI 65536) (need (nzI 65536) (need (nzI 65536) (K (AOut.ret (AV.tup (AV.int IntKind.i64 (addW IntKind.i64
    (mulW IntKind.i64 (remI (addW IntKind.i64 (mulW IntKind.i64 (quoW IntKind.i64 a 65536) b) (quoW IntKind.i64 (mulW IntKind.i64 (remI a 65536) b) 65536)) 65536) 65536)
    (remI (mulW IntKind.i64 (remI a 65536) b) 65536)) :: AV.int IntKind.i64 (quoW IntKind.i64 (addW IntKind.i64 (mulW IntKind.i64 (quoW IntKind.i64 a 65536) b) (quoW
    IntKind.i64 (mulW IntKind.i64 (remI a 65536) b) 65536)) 65536) :: []))) ([]) [] []))))))) := by kernel_rfl
theorem halves_ok : SpecOK Try.prog 51 halvesS := specOK_of (mkCall fsOK_bcmp specsOK_badd fnsOK) (fun vs w => Try.call51 vs w) fun args m K h hw hwm => by
  unfold halvesS at h
  split at h
  · rename_i a b
    rw [halves_eq]
    refine ⟨?_⟩
    simp only [wfAL, wfA, wfS, wfM, wfB, and_true, true_and, wfT_int, wfT_str, wfT_bool, wfT_prod] at hw hwm
    obtain ⟨h1, h2, h⟩ := h
    unfold dgt1 at h1 h2
    have hx0 : 0 ≤ a / 65536 ∧ a / 65536 ≤ 65535 := by omega
    have hy0 : 0 ≤ a % 65536 ∧ a % 65536 ≤ 65535 := by omega
    have ha : a = 65536 * (a / 65536) + a % 65536 := by omega
    have hab : a * b = 65536 * (a / 65536 * b) + a % 65536 * b := by
      conv => lhs; rw [ha]
      rw [Int.add_mul, Int.mul_assoc]
    have p1 := Int.mul_nonneg hx0.1 h2.1
    have p2 := Int.mul_le_mul_of_nonneg_right hx0.2 h2.1
    have q1 := Int.mul_nonneg hy0.1 h2.1
    have q2 := Int.mul_le_mul_of_nonneg_right hy0.2 h2.1
    rw [quo_pos (a := a) (b := 65536) h1.1 (by omega) (by omega), rem_pos (a := a) (b := 65536) h1.1]
    obtain ⟨P, hP⟩ : ∃ P, a / 65536 * b = P := ⟨_, rfl⟩
    obtain ⟨Q, hQ⟩ : ∃ Q, a % 65536 * b = Q := ⟨_, rfl⟩
    rw [hP] at p1 p2 hab
    rw [hQ] at q1 q2 hab
    have e1 : mulW .i64 (a % 65536) b = Q := (mulW64 (by rw [hQ]; omega) (by rw [hQ]; omega)).trans hQ
    have e2 : mulW .i64 (a / 65536) b = P := (mulW64 (by rw [hP]; omega) (by rw [hP]; omega)).trans hP
    rw [e1, e2, quo_pos (a := Q) (b := 65536) (by omega) (by omega) (by omega), rem_pos (a := Q) (b := 65536) (by omega), addW64 (a := P) (b := Q / 65536) (by omega) (by omega), rem_pos (a := P + Q / 65536) (b := 65536) (by omega), quo_pos (a := P + Q / 65536) (b := 65536) (by omega) (by omega) (by omega), mulW64 (a := (P + Q / 65536) % 65536) (b := 65536) (by omega) (by omega), addW64 (by omega) (by omega)]
    have hr : halfR a b ((P + Q / 65536) % 65536 * 65536 + Q % 65536) ((P + Q / 65536) / 65536) := ⟨by omega, by omega, by rw [hab]; omega⟩
    have := h _ _ hr
    have hz : nzI 65536 := by unfold nzI; omega
    simp only [need_def, hz, this, and_self]
  · exact h.elim
noncomputable def SP_halves : List AV → List Blk → AK → Prop := (frameS halvesS)
theorem SPok_halves : SpecOK Try.prog 51 SP_halves := (frame_ok halves_ok)
noncomputable def specs_halves : Specs := (51, SP_halves) :: specs_badd
theorem specsOK_halves : SpecsOK Try.prog specs_halves := specsOK_cons SPok_halves specsOK_badd
end Go.Proofs.Ytmdjpohmbkodeaa.Sx

